/- The law on words, numbers and bytes, walked. -/
import Derived.Test.YtlhmpmmblnbmbaaConParse3
import Derived.Test.YtlhmpmmblnbmbaaConPure
namespace Go.Proofs.Ytlhmpmmblnbmbaa.Con
open Go.Lib Go.RowKit Go.Proofs.Ytlhmpmmblnbmbaa.Cells Go.Proofs.Ytlhmpmmblnbmbaa.PConsoleWords Go.Proofs.YtlhmpmmblnbmbaaW.PrintWords Go.Proofs.YtlhmpmmblnbmbaaW.PrintLast Go.Proofs.YtlhmpmmblnbmbaaW.PrintMore WordsPlain NumberPlain
def LINE : ByteArray := ⟨#[119, 114, 105, 116, 101, 32, 49, 32, 48, 32, 48, 97, 48, 98, 32, 102, 117, 97]⟩
def xL : A10 := ⟨0, 0, 1, 0, 0, [10, 11], true, 0, 0, []⟩
def hxL (t : ByteArray) : List Int × Bool := if t = ⟨#[48, 97, 48, 98]⟩ then ([10, 11], true) else ([], false)
theorem line_words : words LINE = [⟨#[119, 114, 105, 116, 101]⟩, ⟨#[49]⟩, ⟨#[48]⟩, ⟨#[48, 97, 48, 98]⟩, ⟨#[102, 117, 97]⟩] := by decide +kernel
theorem line_parse : parse hxL LINE = (xL, true) := by kernel_rfl
theorem line_hex : ∀ t ∈ (words LINE).tail, ∃ k, console_Hex.f k t = some (hxL t) := by
  rw [line_words]
  intro t ht
  simp only [List.tail_cons, List.mem_cons, List.not_mem_nil, or_false] at ht
  rcases ht with rfl | rfl | rfl | rfl <;> exact ⟨10, by decide +kernel⟩
theorem line_c (w : World) : Calls Try.prog 33 #[.string LINE] w (ParsePost w xL true) := by
  have := parse_c hxL LINE (by decide) line_hex w
  rw [line_parse] at this
  exact this
theorem words_len (s : ByteArray) : (words s).length ≤ s.size + 1 := by
  have := scan_len s s.size
  unfold words
  simp only []
  split
  · rw [List.length_append]; simp; omega
  · omega
set_option maxHeartbeats 4000000 in
set_option maxRecDepth 100000 in
theorem live_c (w : World) : Calls Try.prog 8 #[] w fun e w' => e = .returned (.bool true) ∧ Below w.heap.size w w' := by
  have hu1 := Try.underlying74
  have hu2 := Try.underlying72
  have hu3 := Try.underlying27
  have hu9 := Try.underlying9
  have HSS := Aside0.mk (show strOfNums xL.data = ⟨#[10, 11]⟩ by decide +kernel)
  go_enter Try.func8, Try.ntmps8
  go_wp2_with (first | (go_at_call 33; refine (line_c _).mono ?_; rintro e wb ⟨vd, vk, rfl, hRd, hRk, hbb⟩; have HB := Aside0.mk hbb; obtain ⟨Ad, cd, hvd, -, -⟩ := Kd.R_reads hRd; obtain ⟨Ak, ck, hvk, -, -⟩ := Kd.R_reads hRk; subst hvd; subst hvk; have HRD := Aside0.mk hRd; clear hbb hRd hRk) | ((with_reducible refine gate_dst (N := 1) rfl ?_); refine Cells.alloc_event rfl (N := 1) rfl 74 rfl zero74 zero74_is ?_; intro g1 hg1 wd k1 hbd; have HBD := Aside0.mk hbd; have HG1 := Aside0.mk (show wb.heap.size ≤ g1 by rw [hg1]; exact Nat.le_refl _); have HG1b := Aside0.mk hg1; clear hbd hg1) | ((with_reducible refine Cells.store_whole rfl rfl 74 _ _ rfl g1 (cellsA xL (.slice Ad xL.data.length cd) (.slice Ak xL.keep.length ck)) zero74.cells ?sx ?sy k1 ?ss ?si ?s1 ?_); (case sx => rfl); (case sy => rfl); (case ss => rfl); (case si => exact size74); (case s1 => rfl); intro w9 k9 hfar hb3; have hb9 := HBD.out.trans (hb3 _ (by rw [HG1b.out]; exact Nat.le_refl _)); have HB9 := Aside0.mk (below_step HB.out hb9); have hcv := own_string (P := Try.prog) Try.underlying27 Try.underlying5 Try.underlying9 (Kd.own_of_R (Kd.R_below HRD.out hb9)); rw [HSS.out] at hcv; clear hb3 hfar k1 hb9; have c2 : w9.cell? ⟨g1, 2, none⟩ = some (.int .i64 1) := (blk_cell k9 2).trans rfl; have c5 : w9.cell? ⟨g1, 5, none⟩ = some (.slice Ad xL.data.length cd) := (blk_cell k9 5).trans rfl; have c6 : w9.cell? ⟨g1, 6, none⟩ = some (.bool true) := (blk_cell k9 6).trans rfl; clear k9))
  go_ret
  exact ⟨rfl, HB9.out⟩
set_option maxHeartbeats 4000000 in
set_option maxRecDepth 100000 in
theorem law_c (s : ByteArray) (w : World) : Calls Try.prog 3 #[.string s] w fun e w' => e = .returned (.bool true) ∧ Below w.heap.size w w' := by
  have hu1 := Try.underlying27
  have hu2 := Try.underlying9
  have hu3 := Try.underlying23
  by_cases hlen : (s.size : Int) > 300
  · have hd : decide ((s.size : Int) > 300) = true := decide_eq_true hlen
    have hd2 : decide (300 < (s.size : Int)) = true := decide_eq_true hlen
    go_enter Try.func3, Try.ntmps3
    go_wp2_with (first | (go_at_call 8; refine (live_c _).mono ?_; rintro e wl ⟨rfl, hbl⟩))
    go_ret
    exact ⟨rfl, hbl⟩
  · have hd : decide ((s.size : Int) > 300) = false := decide_eq_false hlen
    have hd2 : decide (300 < (s.size : Int)) = false := decide_eq_false hlen
    have hs : s.size ≤ 1000000 := by omega
    obtain ⟨kw, hkw⟩ := ref_words s hs
    obtain ⟨kn, hkn⟩ := ref_number s
    obtain ⟨kh, kg, ⟨r1, r2⟩, hkh, hkg⟩ := hex_both s hs
    obtain ⟨nv, nb, hnum⟩ : ∃ nv nb, numb s = (nv, nb) := ⟨_, _, rfl⟩
    rw [hnum] at hkn
    obtain ⟨l, hl⟩ : ∃ l, words s = l := ⟨_, rfl⟩
    rw [hl] at hkw
    obtain ⟨n, HN⟩ : ∃ n, Aside0 (l.length = n) := ⟨_, ⟨rfl⟩⟩
    have hnb : n ≤ 301 := by
      have h1 := words_len s
      rw [hl, HN.out] at h1; omega
    have HL := Aside0.mk hl
    have HKW := Aside0.mk hkw
    have HKN := Aside0.mk hkn
    have HNU := Aside0.mk hnum
    have HKH := Aside0.mk hkh
    have HKG := Aside0.mk hkg
    clear hl hkw hkn hkh hkg hnum
    go_enter Try.func3, Try.ntmps3
    go_wp2_with (first | (go_at_call 9; refine (words_calls s hs _).mono ?_; rintro e w1 ⟨v3, rfl, hR, hb⟩; rw [HL.out] at hR; obtain ⟨A3, c3, h3, -, -⟩ := id (strs_R hR); rw [HN.out] at h3; subst h3; have HS3 := Aside0.mk (strs_R hR); have HB := Aside0.mk hb; clear hb hR) | (go_at_call 10; refine (revetmentref37_Words.calls kw s l _ HKW.out).mono ?_; rintro e w2 ⟨v4, rfl, hR, hb⟩; obtain ⟨A4, c4, h4, -, -⟩ := id (strs_R hR); rw [HN.out] at h4; subst h4; have HS4 := Aside0.mk (strs_R hR); have HS5 := Aside0.mk (HS3.out.below hb); have HB2 := Aside0.mk (below_step HB.out hb); clear hb hR HS3 HB))
    go_loopg [5] n (fun g v wr => ∃ i : Nat, i ≤ n ∧ Aside0 (g = n - i) ∧ v = .int .i64 i ∧ Aside0 (Below w.heap.size w wr) ∧ Aside0 (Strs wr (.slice A3 n c3) l) ∧ Aside0 (Strs wr (.slice A4 n c4) l))
    case atStart => exact ⟨0, Nat.zero_le _, ⟨rfl⟩, rfl, HB2, HS5, HS4⟩
    case round =>
      clear HB2 HS5 HS4
      obtain ⟨i, hi, HG, rfl, HB, HS3, HS4⟩ := hrel
      by_cases hlt : i < n
      · have hil : i < l.length := by rw [HN.out]; exact hlt
        obtain ⟨a3, hA3, -, hc3⟩ := HS3.out.at_ hil
        obtain ⟨a4, hA4, -, hc4⟩ := HS4.out.at_ hil
        subst hA3
        subst hA4
        obtain ⟨tx, htx⟩ : ∃ t, l.getD i ByteArray.empty = t := ⟨_, rfl⟩
        rw [htx] at hc3 hc4
        clear htx hil
        have HW := Aside0.mk (show wrap64 ((i : Int) + 1) = ((i + 1 : Nat) : Int) by unfold wrap64; omega)
        go_wp2_with fail
        go_region_with (fail)
        all_goals
          go_wp2_with fail
          go_roundg (n - (i + 1))
          case measure => have := HG.out; omega
          case rel => exact ⟨i + 1, hlt, ⟨rfl⟩, by go_num, ⟨below_drew HB.out⟩, ⟨HS3.out.below (below_drew (Below.refl _ _))⟩, ⟨HS4.out.below (below_drew (Below.refl _ _))⟩⟩
      · obtain rfl : i = n := by omega
        clear HG HS3 HS4
        go_wp2_with (first | (go_at_call 11; refine (number_at HNU.out _).mono ?_; rintro e w3 ⟨rfl, hb⟩; have HB2 := Aside0.mk (below_step HB.out hb); clear hb HB) | (go_at_call 12; refine (revetmentref37_Number.calls kn s nv nb _ HKN.out).mono ?_; rintro e w4 ⟨rfl, hb⟩; have HB3 := Aside0.mk (below_step HB2.out hb.below); clear hb HB2) | (go_at_call 13; refine (console_Hex.calls kh s r1 r2 _ HKH.out).mono ?_; rintro e w5 ⟨v5, rfl, hR, hb⟩; have HB4 := Aside0.mk (below_step HB3.out hb); have HR5 := Aside0.mk hR; clear hb hR HB3) | (go_at_call 14; refine (revetmentref37_Hex.calls kg s r1 r2 _ HKG.out).mono ?_; rintro e w6 ⟨v6, rfl, hR, hb⟩; have HB5 := Aside0.mk (below_step HB4.out hb); have hcv6 := own_string (P := Try.prog) Try.underlying27 Try.underlying5 Try.underlying9 (Kd.own_of_R hR); have hcv5 := own_string (P := Try.prog) Try.underlying27 Try.underlying5 Try.underlying9 (Kd.own_of_R (Kd.R_below HR5.out hb)); clear hb hR HB4 HR5) | (go_at_call 8; refine (live_c _).mono ?_; rintro e w7 ⟨rfl, hb⟩; have HB6 := Aside0.mk (below_step HB5.out hb); clear hb HB5))
        go_ret
        exact ⟨rfl, HB6.out⟩
end Go.Proofs.Ytlhmpmmblnbmbaa.Con
