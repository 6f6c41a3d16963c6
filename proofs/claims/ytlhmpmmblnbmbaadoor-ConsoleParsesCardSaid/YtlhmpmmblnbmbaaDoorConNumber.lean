/- Which number any text is, walked. -/
import Derived.Test.YtlhmpmmblnbmbaaDoorPConsoleParsesx1
import Derived.Test.YtlhmpmmblnbmbaaDoorNumberPlain
import Derived.Test.YtlhmpmmblnbmbaaDoorConWords
namespace Go.Proofs.YtlhmpmmblnbmbaaDoor.Con
open Go.Lib Go.RowKit Go.Proofs.YtlhmpmmblnbmbaaDoor.PConsoleParses Go.Proofs.YtlhmpmmblnbmbaaDoorW.PrintWords Go.Proofs.YtlhmpmmblnbmbaaDoorW.PrintLast Go.Proofs.YtlhmpmmblnbmbaaDoorW.PrintMore WordsPlain NumberPlain
theorem bt_by (s : ByteArray) (p : Nat) (h : p < s.size) : bt s p = by_ s p := by
  rw [by_get s p h]; unfold bt; simp [h]
theorem digit_yes (c : Nat) (h : 48 ≤ c ∧ c ≤ 57) : console_digit.f c = some true := by
  unfold console_digit.f; rw [if_pos (by omega), decide_eq_true (by omega)]
theorem digit_no (c : Nat) (h : ¬ (48 ≤ c ∧ c ≤ 57)) : console_digit.f c = some false := by
  unfold console_digit.f
  by_cases h1 : (c : Int) ≥ 48
  · rw [if_pos h1, decide_eq_false (by omega)]
  · rw [if_neg h1]
theorem toList_nil {s : ByteArray} : s.toList = [] ↔ s.size = 0 := by
  rw [ByteArray.toList_eq, ← List.length_eq_zero_iff]; simp
theorem head_one (s : ByteArray) (h : 0 < s.size) : (s.extract 0 1).toList = [s[0]'h] := by
  rw [ByteArray.toList_eq]
  have e : (s.extract 0 1).data.toList = s.data.toList.take 1 := by simp [ByteArray.data_extract]
  rw [e]
  obtain ⟨⟨l⟩⟩ := s
  cases l with
  | nil => simp [ByteArray.size] at h
  | cons x t => rfl
theorem cut_minus (s : ByteArray) : strings_CutPrefix.f s ⟨#[45]⟩ = some (rest s, minus s) := by
  unfold strings_CutPrefix.f stringslite_CutPrefix.f stringslite_HasPrefix.f
  have e1 : ((⟨#[45]⟩ : ByteArray).size : Int) = 1 := rfl
  have e2 : (⟨#[45]⟩ : ByteArray).toList = [45] := by rw [ByteArray.toList_eq]
  rw [e1, e2]
  by_cases h : (s.size : Int) ≥ 1
  · have h0 : 0 < s.size := by omega
    rw [if_pos h, if_pos (by omega), if_pos (by omega)]
    simp only [Option.bind_some]
    have e3 : ((1 : Int).toNat) = 1 := rfl
    rw [e3, head_one s h0]
    have hm : ([s[0]'h0] == ([45] : List UInt8)) = minus s := by
      unfold minus
      rw [decide_eq_true h0, Bool.true_and, by_get s 0 h0, Bool.eq_iff_iff]
      simp only [beq_iff_eq, List.cons.injEq, and_true]
      constructor
      · intro hh; rw [hh]; rfl
      · intro hh; exact UInt8.toNat_inj.1 hh
    rw [hm]
    unfold rest
    cases hmm : minus s with
    | true => rw [if_pos rfl, if_pos (by omega), if_pos (by omega), if_pos rfl]; rfl
    | false => rw [if_neg (by decide), if_neg (by decide)]; rfl
  · have hm : minus s = false := by unfold minus; rw [decide_eq_false (by omega)]; rfl
    rw [if_neg h]
    simp only [Option.bind_some]
    unfold rest
    rw [hm, if_neg (by decide), if_neg (by decide)]; rfl
set_option maxHeartbeats 8000000 in
set_option maxRecDepth 100000 in
theorem number_loop (s r : ByteArray) (m : Bool) (n1 : Int) (n2 : Bool) (HC : Aside0 (strings_CutPrefix.f s ⟨#[45]⟩ = some (r, m))) (HN : Aside0 ((n1, n2) = if alld r r.size = true then (if m = true then - digs r r.size else digs r r.size, true) else (0, false)))
    (e1 : (r.toList == ([] : List UInt8)) = false) (_e2 : decide (12 < r.size) = false) (e3 : decide ((12 : Int) < r.size) = false) (hx0 : ∀ h : 0 < r.size, ((r[0]'h).toNat : Int) = bt r 0) (q0 : (0 < r.size) = True) (_q1 : (0 < (r.size : Int)) = True)
    (hc : (bt r 0 == 48) = false ∨ ((bt r 0 == 48) = true ∧ decide (1 < r.size) = false ∧ decide ((1 : Int) < r.size) = false ∧ m = false)) (h12 : r.size ≤ 12) (w : World) :
    Calls Tryd.prog 47 #[.string s] w fun e w' => e = .returned (.tuple #[.int .i64 n1, .bool n2]) ∧ Below w.heap.size w w' := by
  rcases hc with e4 | ⟨e4, e5, e6, rfl⟩
  all_goals
    go_enter Tryd.func47, Tryd.ntmps47
    go_wp2_with (first | (go_at_call 70; refine (strings_CutPrefix.calls _ _ _ _ _ HC.out).mono ?_; rintro e w2 ⟨rfl, hd⟩; have HD := Aside0.mk hd; clear hd))
    have HB0 := Aside0.mk (HD.out).below
    clear HD
    go_loopg [6] r.size (fun g v6 wr => ∃ pos : Nat, pos ≤ r.size ∧ Aside0 (g = r.size - pos) ∧ v6 = .int .i64 (digs r pos) ∧ Aside0 (alld r pos = true) ∧ Aside0 (wr.heap[w2.heap.size]? = some (.stringIter r pos)) ∧ Aside0 (Below w.heap.size w wr))
    case atStart => exact ⟨0, Nat.zero_le _, ⟨rfl⟩, rfl, ⟨rfl⟩, ⟨World.iter_heap _ _ _⟩, ⟨HB0.out.trans ((Below.refl _ _).alloc HB0.out.size _)⟩⟩
    case round =>
      obtain ⟨pos, hp, HG, rfl, HA, HI, HB⟩ := hrel
      have hdb := digs_bound r pos HA.out (by omega)
      obtain ⟨hd1, hd2⟩ := hdb
      have hgz := HB0.out.size
      by_cases hlt : pos < r.size
      · have hrd := rune_digit r pos hlt
        have hnx := fun ty => run_next_any_at (P := Tryd.prog) wr w2.heap.size r pos ty HI.out hlt
        have hi2 := iterAt_heap wr w2.heap.size r pos (pos + (Utf8.decode r pos).2) HI.out
        have hb2 := below_iterAt HB.out hgz r (pos + (Utf8.decode r pos).2)
        obtain ⟨c, hcc⟩ : ∃ c, (Utf8.decode r pos).1 = c := ⟨_, rfl⟩
        obtain ⟨n, hn⟩ : ∃ n, (Utf8.decode r pos).2 = n := ⟨_, rfl⟩
        have hrd2 : (isd (by_ r pos) = true ∧ c = by_ r pos ∧ n = 1) ∨ (isd (by_ r pos) = false ∧ ¬ (48 ≤ c ∧ c ≤ 57)) := by
          rcases hrd with ⟨k1, k2⟩ | ⟨k1, k2⟩
          · exact .inl ⟨k1, by rw [← hcc, k2], by rw [← hn, k2]⟩
          · exact .inr ⟨k1, by rw [← hcc]; exact k2⟩
        rw [hn] at hi2 hb2
        simp only [hcc, hn] at hnx
        obtain ⟨wi, hwi⟩ : ∃ wi, wr.iterAt w2.heap.size r (pos + n) = wi := ⟨_, rfl⟩
        rw [hwi] at hi2 hb2
        simp only [hwi] at hnx
        have HI2 := Aside0.mk hi2
        have HB2 := Aside0.mk hb2
        clear hi2 hb2 hwi hcc hn HI HB hrd
        rcases hrd2 with ⟨k1, rfl, rfl⟩ | ⟨k1, k2⟩
        · have kk := (isd_iff _).1 k1
          obtain ⟨kl, kh⟩ := kk
          have hA2 := Aside0.mk (show alld r (pos + 1) = true by show (alld r pos && _) = true; rw [HA.out, k1]; rfl)
          have hS := Aside0.mk (show digs r (pos + 1) = 10 * digs r pos + (by_ r pos - 48) from rfl)
          have HDG := Aside0.mk (digit_yes _ ⟨kl, kh⟩)
          clear k1
          go_wp2_with (first | (go_at_call 71; refine (console_digit.calls _ _ _ HDG.out).mono ?_; rintro e w3 ⟨rfl, hd⟩; have HD := Aside0.mk hd; clear hd))
          go_roundg (r.size - (pos + 1))
          case measure => have := HG.out; omega
          case rel => exact ⟨pos + 1, hlt, ⟨rfl⟩, by rw [hS.out], hA2, ⟨((HD.out).below.block _ (blk_lt HI2.out)).trans HI2.out⟩, ⟨below_step HB2.out (HD.out).below⟩⟩
        · have hst := alld_stop r pos k1 r.size hlt
          have hv := HN.out.trans (if_neg (by rw [hst]; decide))
          simp only [Prod.mk.injEq] at hv
          obtain ⟨rfl, rfl⟩ := hv
          have HDG := Aside0.mk (digit_no c k2)
          clear k1 k2 hst HN
          go_wp2_with (first | (go_at_call 71; refine (console_digit.calls _ _ _ HDG.out).mono ?_; rintro e w3 ⟨rfl, hd⟩; have HD := Aside0.mk hd; clear hd))
          go_ret2
          exact ⟨rfl, below_step HB2.out (HD.out).below⟩
      · obtain rfl : pos = r.size := by omega
        have hnx := fun ty => run_next_end_at (P := Tryd.prog) wr w2.heap.size r r.size ty HI.out hlt
        have hv := HN.out.trans (if_pos HA.out)
        simp only [Prod.mk.injEq] at hv
        obtain ⟨hv1, rfl⟩ := hv
        have HV := Aside0.mk hv1
        clear hv1 HN
        first
        | (cases m with
           | true =>
             go_wp2
             go_ret2
             exact ⟨by rw [HV.out]; rfl, HB.out⟩
           | false =>
             go_wp2
             go_ret2
             exact ⟨by rw [HV.out]; rfl, HB.out⟩)
        | (go_wp2
           go_ret2
           exact ⟨by rw [HV.out]; rfl, HB.out⟩)
set_option maxHeartbeats 4000000 in
set_option maxRecDepth 100000 in
theorem number_calls (s : ByteArray) (w : World) :
    Calls Tryd.prog 47 #[.string s] w fun e w' => e = .returned (.tuple #[.int .i64 (numb s).1, .bool (numb s).2]) ∧ Below w.heap.size w w' := by
  have hcut := cut_minus s
  have hnum : numb s = if bad s = true then (0, false) else if alld (rest s) (rest s).size = true then (if minus s = true then - digs (rest s) (rest s).size else digs (rest s) (rest s).size, true) else (0, false) := rfl
  have hbad : bad s = (decide ((rest s).size < 1) || decide ((rest s).size > 12) || ((by_ (rest s) 0 == 48) && (decide ((rest s).size > 1) || minus s))) := rfl
  obtain ⟨r, hr⟩ : ∃ r, rest s = r := ⟨_, rfl⟩
  obtain ⟨m, hm⟩ : ∃ m, minus s = m := ⟨_, rfl⟩
  obtain ⟨n1, hn1⟩ : ∃ m, (numb s).1 = m := ⟨_, rfl⟩
  obtain ⟨n2, hn2⟩ : ∃ m, (numb s).2 = m := ⟨_, rfl⟩
  rw [hr, hm] at hcut hnum hbad
  rw [hn1, hn2]
  have hnum2 : (n1, n2) = if bad s = true then (0, false) else if alld r r.size = true then (if m = true then - digs r r.size else digs r r.size, true) else (0, false) := by rw [← hnum, ← hn1, ← hn2]
  have HC := Aside0.mk hcut
  have HN := Aside0.mk hnum2
  clear hcut hr hm hn1 hn2 hnum hnum2
  by_cases h1 : r.size < 1
  · have hb : bad s = true := by rw [hbad, decide_eq_true h1]; rfl
    have e1 : (r.toList == ([] : List UInt8)) = true := beq_iff_eq.mpr (toList_nil.2 (by omega))
    have hv := HN.out.trans (if_pos hb)
    simp only [Prod.mk.injEq] at hv
    obtain ⟨rfl, rfl⟩ := hv
    clear hb hbad HN h1
    go_enter Tryd.func47, Tryd.ntmps47
    go_wp2_with (first | (go_at_call 70; refine (strings_CutPrefix.calls _ _ _ _ _ HC.out).mono ?_; rintro e w2 ⟨rfl, hd⟩; have HD := Aside0.mk hd; clear hd))
    go_ret2
    exact ⟨rfl, (HD.out).below⟩
  · have e1 : (r.toList == ([] : List UInt8)) = false := beq_eq_false_iff_ne.mpr (fun h => h1 (by have := toList_nil.1 h; omega))
    by_cases h2 : r.size > 12
    · have hb : bad s = true := by rw [hbad, decide_eq_true h2]; simp
      have e2 : decide (12 < r.size) = true := decide_eq_true h2
      have e3 : decide ((12 : Int) < r.size) = true := decide_eq_true (by omega)
      have hv := HN.out.trans (if_pos hb)
      simp only [Prod.mk.injEq] at hv
      obtain ⟨rfl, rfl⟩ := hv
      clear hb hbad HN h1 h2
      go_enter Tryd.func47, Tryd.ntmps47
      go_wp2_with (first | (go_at_call 70; refine (strings_CutPrefix.calls _ _ _ _ _ HC.out).mono ?_; rintro e w2 ⟨rfl, hd⟩; have HD := Aside0.mk hd; clear hd))
      go_ret2
      exact ⟨rfl, (HD.out).below⟩
    · have e2 : decide (12 < r.size) = false := decide_eq_false h2
      have e3 : decide ((12 : Int) < r.size) = false := decide_eq_false (by omega)
      have h0 : 0 < r.size := by omega
      have hx0 : ∀ h : 0 < r.size, ((r[0]'h).toNat : Int) = bt r 0 := bt_at r 0
      have hby := bt_by r 0 h0
      have q0 := eq_true h0
      have q1 := eq_true (show 0 < (r.size : Int) by omega)
      by_cases h3 : by_ r 0 = 48
      · have e4 : (bt r 0 == 48) = true := beq_iff_eq.mpr (by rw [show bt r 0 = bt r ((0 : Nat) : Int) from rfl, hby, h3]; rfl)
        by_cases h4 : r.size > 1
        · have hb : bad s = true := by rw [hbad, decide_eq_true h4]; simp [h3]
          have e5 : decide (1 < r.size) = true := decide_eq_true h4
          have e6 : decide ((1 : Int) < r.size) = true := decide_eq_true (by omega)
          clear hby h3 h4 h0
          have hv := HN.out.trans (if_pos hb)
          simp only [Prod.mk.injEq] at hv
          obtain ⟨rfl, rfl⟩ := hv
          clear hb hbad HN h1 h2
          go_enter Tryd.func47, Tryd.ntmps47
          go_wp2_with (first | (go_at_call 70; refine (strings_CutPrefix.calls _ _ _ _ _ HC.out).mono ?_; rintro e w2 ⟨rfl, hd⟩; have HD := Aside0.mk hd; clear hd))
          go_ret2
          exact ⟨rfl, (HD.out).below⟩
        · have e5 : decide (1 < r.size) = false := decide_eq_false h4
          have e6 : decide ((1 : Int) < r.size) = false := decide_eq_false (by omega)
          cases m with
          | true =>
            have hb : bad s = true := by rw [hbad]; simp [h3]
            clear hby h3 h4 h0
            have hv := HN.out.trans (if_pos hb)
            simp only [Prod.mk.injEq] at hv
            obtain ⟨rfl, rfl⟩ := hv
            clear hb hbad HN h1 h2
            go_enter Tryd.func47, Tryd.ntmps47
            go_wp2_with (first | (go_at_call 70; refine (strings_CutPrefix.calls _ _ _ _ _ HC.out).mono ?_; rintro e w2 ⟨rfl, hd⟩; have HD := Aside0.mk hd; clear hd))
            go_ret2
            exact ⟨rfl, (HD.out).below⟩
          | false =>
            have hb : bad s = false := by rw [hbad, decide_eq_false h1, decide_eq_false h2, decide_eq_false h4]; simp
            have HN2 := Aside0.mk (HN.out.trans (if_neg (by rw [hb]; decide)))
            clear hb hbad HN hby h3 h4 h0
            exact number_loop s r false n1 n2 HC HN2 e1 e2 e3 hx0 q0 q1 (.inr ⟨e4, e5, e6, rfl⟩) (by omega) w
      · have e4 : (bt r 0 == 48) = false := beq_eq_false_iff_ne.mpr (by rw [show bt r 0 = bt r ((0 : Nat) : Int) from rfl, hby]; omega)
        have hb : bad s = false := by rw [hbad, decide_eq_false h1, decide_eq_false h2]; simp [h3]
        have HN2 := Aside0.mk (HN.out.trans (if_neg (by rw [hb]; decide)))
        clear hb hbad HN hby h3 h0
        exact number_loop s r m n1 n2 HC HN2 e1 e2 e3 hx0 q0 q1 (.inl e4) (by omega) w
end Go.Proofs.YtlhmpmmblnbmbaaDoor.Con
