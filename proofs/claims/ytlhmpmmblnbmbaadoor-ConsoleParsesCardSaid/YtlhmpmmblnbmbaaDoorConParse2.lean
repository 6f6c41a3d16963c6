/- console.Parse walked. -/
import Derived.Test.YtlhmpmmblnbmbaaDoorConParse
namespace Go.Proofs.YtlhmpmmblnbmbaaDoor.Con
open Go.Lib Go.RowKit Go.Proofs.YtlhmpmmblnbmbaaDoor.Cells Go.Proofs.YtlhmpmmblnbmbaaDoor.PConsoleParses Go.Proofs.YtlhmpmmblnbmbaaDoorW.PrintWords Go.Proofs.YtlhmpmmblnbmbaaDoorW.PrintLast Go.Proofs.YtlhmpmmblnbmbaaDoorW.PrintMore WordsPlain NumberPlain
theorem run_equalIn_fn_nil {P : Program} (w : World) (d : Nat) (t : TypeId) (pa pb : Array TypeId) (v : Bool) (f : Fn) (x y : Array Value) (h : P.underlying t = some (.func pa pb v)) : (Op.equalIn (d + 1) t (.func f x y) .nilFunc).run P w = .ok false w := by
  simp [Op.equalIn, run_underlying h]
theorem run_equalIn_nil_nil {P : Program} (w : World) (d : Nat) (t : TypeId) (pa pb : Array TypeId) (v : Bool) (h : P.underlying t = some (.func pa pb v)) : (Op.equalIn (d + 1) t .nilFunc .nilFunc).run P w = .ok true w := by
  simp [Op.equalIn, run_underlying h]
theorem run_equal_fn_nil {P : Program} (w : World) (t : TypeId) (pa pb : Array TypeId) (v : Bool) (f : Fn) (x y : Array Value) (h : P.underlying t = some (.func pa pb v)) : (Op.equal t (.func f x y) .nilFunc).run P w = .ok false w := run_equalIn_fn_nil w 9999 t pa pb v f x y h
theorem run_equal_nil_nil {P : Program} (w : World) (t : TypeId) (pa pb : Array TypeId) (v : Bool) (h : P.underlying t = some (.func pa pb v)) : (Op.equal t .nilFunc .nilFunc).run P w = .ok true w := run_equalIn_nil_nil w 9999 t pa pb v h
theorem run_neq_fn (w : World) (f : Fn) (x y : Array Value) : (binOp .neq 89 (.func f x y) .nilFunc).run Tryd.prog w = .ok (.bool true) w := by
  simp only [binOp]
  simp [run_equal_fn_nil w 89 _ _ _ f x y Tryd.underlying89]
theorem run_neq_nil (w : World) : (binOp .neq 89 .nilFunc .nilFunc).run Tryd.prog w = .ok (.bool false) w := by
  simp only [binOp]
  simp [run_equal_nil_nil w 89 _ _ _ Tryd.underlying89]
def outA (hr : List Int × Bool) (bs : Option Nat) : Option A10 → A10 × Bool
  | none => (zA, false)
  | some x => match bs with
    | none => (x, true)
    | some p => if hr.2 = true then (setB x p hr.1, true) else (zA, false)
theorem number_at {s : ByteArray} {n : Int} {b : Bool} (h : numb s = (n, b)) (w : World) : Calls Tryd.prog 47 #[.string s] w fun e w' => e = .returned (.tuple #[.int .i64 n, .bool b]) ∧ Below w.heap.size w w' := by
  have := number_calls s w
  rw [h] at this
  exact this
theorem drop_at {α : Type} {l : List α} {i : Nat} {x : α} (h : l[i]? = some x) : l.drop i = x :: l.drop (i + 1) := by
  obtain ⟨hi, rfl⟩ := List.getElem?_eq_some_iff.1 h
  exact List.drop_eq_getElem_cons hi
theorem place_c {q : Nat} (hq : q = 2 ∨ q = 3 ∨ q = 4 ∨ q = 7 ∨ q = 8) (g : Nat) (w : World) : Calls Tryd.prog (pf q) #[.pointer (some ⟨g, 0, none⟩)] w fun e w' => e = .returned (.pointer (some ⟨g, q, none⟩)) ∧ w = w' := by
  rcases hq with rfl | rfl | rfl | rfl | rfl
  · exact place2_c g w
  · exact place3_c g w
  · exact place4_c g w
  · exact place7_c g w
  · exact place8_c g w
theorem place_some {q : Nat} (hq : q = 2 ∨ q = 3 ∨ q = 4 ∨ q = 7 ∨ q = 8) (x : A10) : ∃ u, (cellsA x (.slice none 0 0) (.slice none 0 0)).toArray[q]? = some u := by
  rcases hq with rfl | rfl | rfl | rfl | rfl <;> exact ⟨_, rfl⟩
theorem setP_rows {x : A10} {p : Nat} {v : Int} : (setP x p v).data = x.data ∧ (setP x p v).keep = x.keep := by
  unfold setP
  split <;> exact ⟨rfl, rfl⟩
theorem fil_rows : ∀ (ps : List Nat) (l : List ByteArray) (x y : A10), fil x ps l = some y → y.data = x.data ∧ y.keep = x.keep
  | [], _, x, y, h => by simp only [fil, Option.some.injEq] at h; subst h; exact ⟨rfl, rfl⟩
  | p :: ps, [], x, y, h => by simp [fil] at h
  | p :: ps, t :: l, x, y, h => by
    simp only [fil] at h
    split at h
    · have := fil_rows ps l _ _ h
      rw [setP_rows.1, setP_rows.2] at this
      exact this
    · cases h
theorem R_keep {w w1 : World} {base : Nat} {v : Value} {xs : List Int} (h : Kd.R (Kd.int .u8) 5 w base (fun _ => True) v xs) {g : Nat} (hg : g < base) (hm : ∀ k, k ≠ g → w1.heap[k]? = w.heap[k]?) : Kd.R (Kd.int .u8) 5 w1 base (fun _ => True) v xs :=
  Kd.R_mono (Kd.R_step (Kd.R_far1 h rfl (g := g) (fun e => by have := Kd.R_base h g e.symm; omega)) (fun k ho _ => hm k ho.2)) (fun _ _ => trivial)
theorem head_run (W : World) (A : Option Addr) (n c m : Nat) (hm : m ≤ c) : (Instr.slice 79 (.slice A n c) none (some (.int .i64 (m : Int))) none).run Tryd.prog W = .ok (.slice A m c) W := by
  have hel : Tryd.prog.elem 79 = 9 := by simp [Program.elem, Tryd.underlying79]
  have hu : Tryd.prog.underlying 79 = some (.slice (Tryd.prog.elem 79)) := by rw [hel]; exact Tryd.underlying79
  obtain ⟨i, hi, hiz⟩ := Option.map_eq_some_iff.1 size9
  rw [run_slice_h W 79 A n c hu .i64 (m : Int) (by omega) (by omega), hel]
  have hA : A.map (·.add 0) = A := by cases A <;> simp [Addr.add]
  simp [sizeOf, typeInfo, hi, hiz, sliced, Result.andThen, hA]
theorem Strs.cap {w : World} {A : Option Addr} {n c : Nat} {l : List ByteArray} (h : Strs w (.slice A n c) l) : n ≤ c := by
  obtain ⟨A', c', h1, h2, h4⟩ := h
  simp only [Value.slice.injEq] at h1
  obtain ⟨rfl, rfl, rfl⟩ := h1
  exact h2
def xF (kind cmd : Int) (f : Bool) : A10 := { zA with kind := kind, cmd := cmd, fua := f }
def xA (kind cmd : Int) : A10 := xF kind cmd false
set_option maxHeartbeats 4000000 in
set_option maxRecDepth 100000 in
theorem parse_mainN (s : ByteArray) (hs : s.size ≤ 1000000) (w0 : ByteArray) (l : List ByteArray) (hw : words s = w0 :: l) (kind cmd : Int) (ps : List Nat) (hv : formV w0 = (kind, cmd, ps, none)) (ok : Bool) (hok : (form w0).isSome = ok) (hps : ps.length ≤ 10) (hpl : ∀ p ∈ ps, p = 2 ∨ p = 3 ∨ p = 4 ∨ p = 7 ∨ p = 8) (hx : ByteArray → List Int × Bool) (r : A10 × Bool) (HR : Aside0 (r = if (ok && decide ((if (ok && fuaB kind cmd l (ps.length)) = true then l.take (ps.length) else l).length = ps.length)) = true then outA (hx ((if (ok && fuaB kind cmd l (ps.length)) = true then l.take (ps.length) else l).getD ps.length ByteArray.empty)) (none) (fil (xF kind cmd (ok && fuaB kind cmd l (ps.length))) ps (if (ok && fuaB kind cmd l (ps.length)) = true then l.take (ps.length) else l)) else (zA, false))) (w : World) : Calls Tryd.prog 28 #[.string s] w (ParsePost w r.1 r.2) := by
  have hu1 := Tryd.underlying56
  have hu3 := Tryd.underlying91
  have hu5 := Tryd.underlying79
  have hu6 := run_neq_fn
  have hu7 := run_neq_nil
  obtain ⟨nl, HL⟩ : ∃ n, Aside0 (l.length = n) := ⟨_, ⟨rfl⟩⟩
  obtain ⟨np, HN⟩ : ∃ n, Aside0 (ps.length = n) := ⟨_, ⟨rfl⟩⟩
  have hnp : np ≤ 10 := HN.out ▸ hps
  clear hps
  have hw1 : wrap64 ((np : Int) + 1) = np + 1 := (by unfold wrap64; omega)
  have ht1 : ((np : Int) + 1).toNat = np + 1 := by omega
  have hw2 : wrap64 ((np : Int) + 1 + 1) = np + 1 + 1 := (by unfold wrap64; omega)
  have hz1 : ((nl : Int) + 1 == 0) = false := beq_eq_false_iff_ne.mpr (by omega)
  have hz2 : (nl + 1 == 0) = false := beq_eq_false_iff_ne.mpr (by omega)
  have hz3 : (0 : Int) < (nl : Int) + 1 := by omega
  go_enter Tryd.func28, Tryd.ntmps28
  go_upto_region 10 with (first | ((with_reducible refine gate_dst (N := 2) rfl ?_); refine Cells.alloc_event rfl (N := 2) rfl 56 rfl zero56 zero74_is ?_; intro g2 hg wa kg hba; have HB := Aside0.mk hba; have HG := Aside0.mk (show w.heap.size ≤ g2 by rw [hg]; exact Nat.le_refl _); clear hg hba) | (go_at_call 45; refine (words_calls s hs _).mono ?_; rintro e wb ⟨v4, rfl, hR, hbb⟩; rw [hw] at hR; have kg2 := blk_below kg hbb; clear kg; have kg := kg2; clear kg2; have HB2 := Aside0.mk (below_step HB.out hbb); clear HB hbb; have HB := HB2; clear HB2; obtain ⟨A, c, hv4, hlc, hrd⟩ := id (strs_R hR); obtain ⟨ad, rfl, hst⟩ := hrd (by simp); have hc0 : wb.cell? ad = some (.string w0) := (by have := hst 0 _ rfl; simpa [Addr.add] using this); have hv5 : v4 = .slice (some ad) (nl + 1) c := (by rw [hv4, List.length_cons, HL.out]); clear hv4; subst hv5; have HS := Aside0.mk (strs_R hR); clear hlc; clear hR hrd hst) | (go_at_call 46; refine (of_at hv hok _).mono ?_; rintro e wc ⟨vn, rfl, hfr, hbc⟩; have kg2 := blk_below kg hbc; clear kg; have kg := kg2; clear kg2; have HB2 := Aside0.mk (below_step HB.out hbc); clear HB; have HB := HB2; clear HB2; have HS2 := Aside0.mk (HS.out.below hbc); clear HS; have HS := HS2; clear HS2; obtain ⟨An, hvn, hfn⟩ := hfr.is; rw [HN.out] at hvn; subst hvn; have HFR := Aside0.mk hfr; clear hfr hfn hbc hc0) | ((with_reducible refine gate_dst (N := 5) rfl ?_); refine Cells.alloc_event rfl (N := 5) rfl 91 rfl zero91 zero113_is ?_; intro g5 hg5 wd kg5 hbd; have HBD := Aside0.mk hbd; have HG5 := Aside0.mk hg5; clear hbd hg5) | ((with_reducible refine Cells.store_whole rfl rfl 91 _ _ rfl g5 [.int .i64 kind, .int .i64 cmd, .slice An np np, .nilFunc] zero91.cells ?sx ?sy kg5 ?ss ?si ?s1 ?_); (case sx => rfl); (case sy => rfl); (case ss => rfl); (case si => exact size91); (case s1 => rfl); intro we kg5b hfar hb3; have hbe := (HBD.out).trans (hb3 _ (by rw [HG5.out]; exact Nat.le_refl _)); have HP := Aside0.mk (show PS w g2 g5 kind cmd (none) _ _ _ _ we from PS.mk (blk_below kg hbe) kg5b (HS.out.below hbe) (HFR.out.below hbe) (below_step HB.out hbe) HG.out); clear hfar hb3 hbe kg kg5b kg5 HS HFR HB HG HBD HG5; have c50 := HP.out.c0; have c51 := HP.out.c1; have c52 := HP.out.c2; have c53 : we.cell? ⟨g5, 3, none⟩ = some (.nilFunc) := HP.out.c3) | ((with_reducible refine gate_dst (N := 29) rfl ?_); refine cut_event rfl rfl rfl HP.out.st ?_; intro A4 c4 hs4; have HP2 := Aside0.mk ({ HP.out with st := hs4 } : PS _ _ _ _ _ _ _ _ _ _ _); clear HP hs4; have HP := HP2; clear HP2) | ((with_reducible refine gate_dst (N := 7) rfl ?_); refine Cells.alloc_event rfl (N := 7) rfl 56 rfl zero56 zero74_is ?_; intro g7 hg7 wf k7 hbf; have HBF := Aside0.mk hbf; have HG7 := Aside0.mk hg7; clear hbf hg7) | ((with_reducible refine Cells.store_whole rfl rfl 56 _ _ rfl g7 (cellsA (xA kind cmd) (.slice none 0 0) (.slice none 0 0)) zero56.cells ?sx ?sy k7 ?ss ?si ?s1 ?_); (case sx => rfl); (case sy => rfl); (case ss => rfl); (case si => exact size56); (case s1 => rfl); intro wg k7b hfar hb7; have HP2 := Aside0.mk (show PS2 w g2 g5 g7 kind cmd (none) _ l _ ps (xA kind cmd) wg from ⟨⟨_, HP.out, HG7.out.symm, (by have := HBF.out; rw [← HG7.out] at this; exact this.trans (hb7 _ (Nat.le_refl _)))⟩, k7b⟩); clear HP HBF HG7 k7 k7b hfar hb7 c50 c51 c52 c53; have HP := HP2; clear HP2; have c50 := HP.out.base.c0; have c51 := HP.out.base.c1; have c52 := HP.out.base.c2; have c53 : wg.cell? ⟨g5, 3, none⟩ = some (.nilFunc) := HP.out.base.c3))
  obtain ⟨fb, HF⟩ : ∃ b, Aside0 ((ok && fuaB kind cmd l (np)) = b) := ⟨_, ⟨rfl⟩⟩
  go_cut [68] from 44 to 68 (fun v wx => v = .bool fb ∧ wx = wg)
  case first =>
    cases ok with
    | false =>
      go_wp2_with fail
      go_meet
      refine ⟨?_, rfl⟩
      rw [← HF.out]; rfl
    | true =>
      by_cases hk : kind = 0
      · subst hk
        by_cases hc : cmd = 0
        · subst hc
          have HF2 := Aside0.mk (show ((l.length == np + 1) && ((l.getD (np) ByteArray.empty).toList == ([102, 117, 97] : List UInt8))) = fb from HF.out)
          clear HF
          by_cases hl : nl = np + 1
          · subst hl
            obtain ⟨ad4, rfl, -, hcell⟩ := HP.out.base.st.at_ (j := np) (by have := HL.out; omega)
            obtain ⟨x, hx⟩ : ∃ x, l.getD (np) ByteArray.empty = x := ⟨_, rfl⟩
            have HF3 := Aside0.mk (show (x.toList == ([102, 117, 97] : List UInt8)) = fb by rw [← HF2.out, hx, HL.out]; simp)
            rw [hx] at hcell
            clear HF2 hx
            skip
            go_wp2_with fail
            go_meet
            refine ⟨?_, rfl⟩
            exact congrArg Value.bool HF3.out
          · have hd1 : ((nl : Int) == ((np:Int)) + 1) = false := beq_eq_false_iff_ne.mpr (by omega)
            go_wp2_with fail
            go_meet
            refine ⟨?_, rfl⟩
            rw [← HF2.out, HL.out, beq_eq_false_iff_ne.mpr hl]; rfl
        · have hd1 : (cmd == 0) = false := beq_eq_false_iff_ne.mpr hc
          go_wp2_with fail
          go_meet
          refine ⟨?_, rfl⟩
          rw [← HF.out]; unfold fuaB; rw [hd1]; rfl
      · have hd1 : (kind == 0) = false := beq_eq_false_iff_ne.mpr hk
        go_wp2_with fail
        go_meet
        refine ⟨?_, rfl⟩
        rw [← HF.out]; unfold fuaB; rw [hd1]; rfl

  case rest =>
    obtain ⟨h68, h69⟩ := hcut
    subst h68
    subst h69
    obtain ⟨l2, HL2⟩ : ∃ l2, Aside0 ((if fb = true then l.take (np) else l) = l2) := ⟨_, ⟨rfl⟩⟩
    obtain ⟨n2, HN2⟩ : ∃ n2, Aside0 (l2.length = n2) := ⟨_, ⟨rfl⟩⟩
    have HR2 := HR.out
    rw [HN.out, HF.out, HL2.out, HN2.out] at HR2
    clear HR
    have HR := Aside0.mk HR2
    clear HR2
    go_upto_if 68 with fail
    go_cut [4] from 69 to 73 (fun v wx => ∃ A c, v = .slice A n2 c ∧ Aside0 (PS2 w g2 g5 g7 kind cmd (none) v l2 (.slice An np np) ps (xF kind cmd fb) wx))
    case first =>
      cases fb with
      | true =>
        have hf := HF.out
        unfold fuaB at hf
        simp only [Bool.and_eq_true, beq_iff_eq] at hf
        have hnl : nl = np + 1 := HL.out ▸ hf.2.1.2
        have hnl2 : np = n2 := by have e := HL2.out; rw [if_pos rfl] at e; rw [← HN2.out, ← e, List.length_take, HL.out]; omega
        have hnl3 : l.take (np) = l2 := HL2.out
        have HT := Aside0.mk hnl3
        clear hf hnl3
        subst hnl2
        subst hnl
        have hsl := fun W => head_run W A4 (np + 1) c4 (np) (by have := HP.out.base.st.cap; omega)
        try simp only [Int.natCast_add, Int.cast_ofNat_Int] at hsl
        have k7 := HP.out.k7
        have hc6 : wc.cell? ⟨g7, 6, none⟩ = some (.bool false) := (blk_cell k7 6).trans rfl
        have hz6 : wc.frozen? ⟨g7, 6, none⟩ = false := by simp [World.frozen?, k7]
        clear k7
        go_wp2_with fail
        go_region_with (fail)
        all_goals (go_wp2_with fail; go_meet)
        refine ⟨_, _, rfl, ⟨?_⟩⟩
        have hcut4 : ∀ W, Strs W (.slice A4 (np + 1) c4) l → Strs W (.slice A4 (np) c4) l2 := fun W h => HT.out ▸ h.take (Nat.le_succ _)
        exact ((HP.out.cell (y := xF kind cmd true) 6 (.bool true) rfl).below (below_drew (Below.refl _ _))).cut hcut4
      | false =>
        have e := HL2.out
        simp only [Bool.false_eq_true, if_false] at e
        subst e
        have e2 := HN2.out.symm.trans HL.out
        subst e2
        go_wp2_with fail
        go_meet
        exact ⟨_, _, rfl, HP⟩
    case rest =>
      clear HP c50 c51 c52 c53
      obtain ⟨A2, c2, h4, HP⟩ := hcut
      subst h4
      have kg := HP.out.base.k2
      have hres : ok = false ∨ (ok = true ∧ n2 ≠ np) ∨ (ok = true ∧ n2 = np) := by cases ok <;> by_cases h : n2 = np <;> simp [h]
      rcases hres with hok2 | ⟨hok2, hne⟩ | ⟨hok2, hn2⟩
      · subst hok2
        have hr2 : r = (zA, false) := by rw [HR.out, if_neg (by simp)]
        subst hr2
        go_wp2_with (first | ((with_reducible refine Cells.store_whole rfl rfl 56 _ _ rfl g2 ([.int .i64 0, .int .i64 0, .int .i64 0, .int .i64 0, .int .i64 0, .slice none 0 0, .bool false, .int .i64 0, .int .i64 0, .slice none 0 0]) zero56.cells ?sx ?sy kg ?ss ?si ?s1 ?_); (case sx => rfl); (case sy => rfl); (case ss => rfl); (case si => exact size56); (case s1 => rfl); intro w9 kg9 hfar hb3; have HB9 := Aside0.mk (HP.out.base.hb.trans (hb3 _ HP.out.base.n2)); have HF9 := Aside0.mk hfar; clear kg hb3 hfar; have kg := kg9; clear kg9))
        exact bodyPost_ret (results_ct Tryd.results28 _ _ g2 56 _ _ _ rfl kg Tryd.underlying56 rfl size56) rfl ⟨.slice none 0 0, .slice none 0 0, rfl, Kd.R_nil _ _ _ _ _, Kd.R_nil _ _ _ _ _, HB9.out⟩
      · subst hok2
        have hr2 : r = (zA, false) := by rw [HR.out, if_neg (by simp [hne])]
        subst hr2
        have hd1 : ((n2 : Int) != (np:Int)) = true := bne_iff_ne.mpr (by omega)
        go_wp2_with (first | ((with_reducible refine Cells.store_whole rfl rfl 56 _ _ rfl g2 ([.int .i64 0, .int .i64 0, .int .i64 0, .int .i64 0, .int .i64 0, .slice none 0 0, .bool false, .int .i64 0, .int .i64 0, .slice none 0 0]) zero56.cells ?sx ?sy kg ?ss ?si ?s1 ?_); (case sx => rfl); (case sy => rfl); (case ss => rfl); (case si => exact size56); (case s1 => rfl); intro w9 kg9 hfar hb3; have HB9 := Aside0.mk (HP.out.base.hb.trans (hb3 _ HP.out.base.n2)); have HF9 := Aside0.mk hfar; clear kg hb3 hfar; have kg := kg9; clear kg9))
        exact bodyPost_ret (results_ct Tryd.results28 _ _ g2 56 _ _ _ rfl kg Tryd.underlying56 rfl size56) rfl ⟨.slice none 0 0, .slice none 0 0, rfl, Kd.R_nil _ _ _ _ _, Kd.R_nil _ _ _ _ _, HB9.out⟩
      · subst hok2
        have hn3 := hn2.symm
        clear hn2
        subst hn3
        have HE := Aside0.mk (show r = outA (hx (l2.getD np ByteArray.empty)) (none) (fil (xF kind cmd fb) ps l2) by rw [HR.out, if_pos (by simp)])
        clear HR
        have c52 := HP.out.base.c2
        clear kg
        go_wp2_with fail
        go_loopg [86] np (fun g v wr => ∃ (i : Nat) (x : A10), i ≤ np ∧ Aside0 (g = np - i) ∧ v = .int .i64 i ∧ Aside0 (PS2 w g2 g5 g7 kind cmd (none) (.slice A2 (np) c2) l2 (.slice An np np) ps x wr) ∧ Aside0 (fil x (ps.drop i) (l2.drop i) = fil (xF kind cmd fb) ps l2))
        case atStart => exact ⟨0, _, Nat.zero_le _, ⟨rfl⟩, rfl, HP, ⟨rfl⟩⟩
        case round =>
          clear HP c52
          obtain ⟨i, x, hi, HG, rfl, HP, HFI⟩ := hrel
          by_cases hlt : i < np
          · have hi1 : i < ps.length := by rw [HN.out]; exact hlt
            obtain ⟨q, hq⟩ : ∃ q, ps[i]? = some q := ⟨_, List.getElem?_eq_getElem hi1⟩
            have hqd : ps.drop i = q :: ps.drop (i + 1) := drop_at hq
            have hqm := hpl q (List.mem_of_getElem? hq)
            have hi2 : i < l2.length := by rw [HN2.out]; omega
            obtain ⟨ad2, hA2, -, hcs⟩ := HP.out.base.st.at_ hi2
            subst hA2
            obtain ⟨tx, htx⟩ : ∃ t, l2.getD i ByteArray.empty = t := ⟨_, rfl⟩
            have hld : l2.drop i = tx :: l2.drop (i + 1) := drop_at (by rw [← htx, List.getD_eq_getElem?_getD, List.getElem?_eq_getElem hi2]; rfl)
            rw [htx] at hcs
            obtain ⟨An', hAn, hfn⟩ := HP.out.base.fr.is
            obtain ⟨gf, hgf, hfb⟩ := hfn (by intro h0; simp [h0] at hi1)
            have hAn2 : An = some ⟨gf, 0, none⟩ := by simp only [Value.slice.injEq] at hAn; rw [hAn.1]; exact hgf
            clear hAn hfn hgf
            subst hAn2
            have hcf : wr.cell? ⟨gf, i, none⟩ = some (.func (.func (pf q)) #[] #[]) := (blk_cell hfb i).trans (by simp [hq, fv])
            obtain ⟨nv, nb, hnum⟩ : ∃ nv nb, numb tx = (nv, nb) := ⟨_, _, rfl⟩
            have hst : fil x (ps.drop i) (l2.drop i) = if nb = true then fil (setP x q nv) (ps.drop (i + 1)) (l2.drop (i + 1)) else none := by rw [hqd, hld]; show (if (numb tx).2 = true then _ else _) = _; rw [hnum]
            rw [HFI.out] at hst
            have HS := Aside0.mk hst
            have HNU := Aside0.mk hnum
            have HQ := Aside0.mk hqm
            clear hst hnum hqm hfb htx hld hq hqd hi1 hi2 HFI
            cases nb with
            | false =>
              have hr2 : r = (zA, false) := by rw [HE.out, HS.out]; rfl
              subst hr2
              go_wp2_with (first | (go_at_call 47; refine (number_at HNU.out _).mono ?_; rintro e wn ⟨rfl, hbn⟩; have HP2 := Aside0.mk (HP.out.below hbn); clear HP; have HP := HP2; clear HP2 hbn; have kg := HP.out.base.k2) | ((with_reducible refine Cells.store_whole rfl rfl 56 _ _ rfl g2 ([.int .i64 0, .int .i64 0, .int .i64 0, .int .i64 0, .int .i64 0, .slice none 0 0, .bool false, .int .i64 0, .int .i64 0, .slice none 0 0]) zero56.cells ?sx ?sy kg ?ss ?si ?s1 ?_); (case sx => rfl); (case sy => rfl); (case ss => rfl); (case si => exact size56); (case s1 => rfl); intro w9 kg9 hfar hb3; have HB9 := Aside0.mk (HP.out.base.hb.trans (hb3 _ HP.out.base.n2)); have HF9 := Aside0.mk hfar; clear kg hb3 hfar; have kg := kg9; clear kg9))
              exact bodyPost_ret (results_ct Tryd.results28 _ _ g2 56 _ _ _ rfl kg Tryd.underlying56 rfl size56) rfl ⟨.slice none 0 0, .slice none 0 0, rfl, Kd.R_nil _ _ _ _ _, Kd.R_nil _ _ _ _ _, HB9.out⟩
            | true =>
              have HPQ := Aside0.mk (placeN HQ.out (x := x) (.slice none 0 0) (.slice none 0 0) nv)
              have HS2 := Aside0.mk (show fil (setP x q nv) (ps.drop (i + 1)) (l2.drop (i + 1)) = fil (xF kind cmd fb) ps l2 from HS.out.symm)
              clear HS
              have hq := HQ.out
              rcases hq with rfl | rfl | rfl | rfl | rfl
              · have hcf2 : wr.cell? ⟨gf, i, none⟩ = some (.func (.func 61) #[] #[]) := hcf
                clear hcf
                go_wp2_with (first | (go_at_call 47; refine (number_at HNU.out _).mono ?_; rintro e wn ⟨rfl, hbn⟩; have HP2 := Aside0.mk (HP.out.below hbn); clear HP; have HP := HP2; clear HP2 hbn; obtain ⟨u7, he7⟩ := place_some HQ.out x; have hc7 : wn.cell? ⟨g7, 2, none⟩ = some u7 := (blk_cell HP.out.k7 2).trans he7; have hz7 : wn.frozen? ⟨g7, 2, none⟩ = false := (by have k7 := HP.out.k7; simp [World.frozen?, k7]); clear he7) | (go_at_call 61; refine (place2_c g7 _).mono ?_; rintro e wp ⟨rfl, rfl⟩) | (go_at_call 62; refine (place3_c g7 _).mono ?_; rintro e wp ⟨rfl, rfl⟩) | (go_at_call 64; refine (place4_c g7 _).mono ?_; rintro e wp ⟨rfl, rfl⟩) | (go_at_call 68; refine (place7_c g7 _).mono ?_; rintro e wp ⟨rfl, rfl⟩) | (go_at_call 67; refine (place8_c g7 _).mono ?_; rintro e wp ⟨rfl, rfl⟩))
                go_roundg (np - (i + 1))
                case measure => have := HG.out; omega
                case rel => exact ⟨i + 1, _, hlt, ⟨rfl⟩, by go_num, ⟨HP.out.cell _ _ HPQ.out⟩, HS2⟩
              · have hcf2 : wr.cell? ⟨gf, i, none⟩ = some (.func (.func 62) #[] #[]) := hcf
                clear hcf
                go_wp2_with (first | (go_at_call 47; refine (number_at HNU.out _).mono ?_; rintro e wn ⟨rfl, hbn⟩; have HP2 := Aside0.mk (HP.out.below hbn); clear HP; have HP := HP2; clear HP2 hbn; obtain ⟨u7, he7⟩ := place_some HQ.out x; have hc7 : wn.cell? ⟨g7, 3, none⟩ = some u7 := (blk_cell HP.out.k7 3).trans he7; have hz7 : wn.frozen? ⟨g7, 3, none⟩ = false := (by have k7 := HP.out.k7; simp [World.frozen?, k7]); clear he7) | (go_at_call 61; refine (place2_c g7 _).mono ?_; rintro e wp ⟨rfl, rfl⟩) | (go_at_call 62; refine (place3_c g7 _).mono ?_; rintro e wp ⟨rfl, rfl⟩) | (go_at_call 64; refine (place4_c g7 _).mono ?_; rintro e wp ⟨rfl, rfl⟩) | (go_at_call 68; refine (place7_c g7 _).mono ?_; rintro e wp ⟨rfl, rfl⟩) | (go_at_call 67; refine (place8_c g7 _).mono ?_; rintro e wp ⟨rfl, rfl⟩))
                go_roundg (np - (i + 1))
                case measure => have := HG.out; omega
                case rel => exact ⟨i + 1, _, hlt, ⟨rfl⟩, by go_num, ⟨HP.out.cell _ _ HPQ.out⟩, HS2⟩
              · have hcf2 : wr.cell? ⟨gf, i, none⟩ = some (.func (.func 64) #[] #[]) := hcf
                clear hcf
                go_wp2_with (first | (go_at_call 47; refine (number_at HNU.out _).mono ?_; rintro e wn ⟨rfl, hbn⟩; have HP2 := Aside0.mk (HP.out.below hbn); clear HP; have HP := HP2; clear HP2 hbn; obtain ⟨u7, he7⟩ := place_some HQ.out x; have hc7 : wn.cell? ⟨g7, 4, none⟩ = some u7 := (blk_cell HP.out.k7 4).trans he7; have hz7 : wn.frozen? ⟨g7, 4, none⟩ = false := (by have k7 := HP.out.k7; simp [World.frozen?, k7]); clear he7) | (go_at_call 61; refine (place2_c g7 _).mono ?_; rintro e wp ⟨rfl, rfl⟩) | (go_at_call 62; refine (place3_c g7 _).mono ?_; rintro e wp ⟨rfl, rfl⟩) | (go_at_call 64; refine (place4_c g7 _).mono ?_; rintro e wp ⟨rfl, rfl⟩) | (go_at_call 68; refine (place7_c g7 _).mono ?_; rintro e wp ⟨rfl, rfl⟩) | (go_at_call 67; refine (place8_c g7 _).mono ?_; rintro e wp ⟨rfl, rfl⟩))
                go_roundg (np - (i + 1))
                case measure => have := HG.out; omega
                case rel => exact ⟨i + 1, _, hlt, ⟨rfl⟩, by go_num, ⟨HP.out.cell _ _ HPQ.out⟩, HS2⟩
              · have hcf2 : wr.cell? ⟨gf, i, none⟩ = some (.func (.func 68) #[] #[]) := hcf
                clear hcf
                go_wp2_with (first | (go_at_call 47; refine (number_at HNU.out _).mono ?_; rintro e wn ⟨rfl, hbn⟩; have HP2 := Aside0.mk (HP.out.below hbn); clear HP; have HP := HP2; clear HP2 hbn; obtain ⟨u7, he7⟩ := place_some HQ.out x; have hc7 : wn.cell? ⟨g7, 7, none⟩ = some u7 := (blk_cell HP.out.k7 7).trans he7; have hz7 : wn.frozen? ⟨g7, 7, none⟩ = false := (by have k7 := HP.out.k7; simp [World.frozen?, k7]); clear he7) | (go_at_call 61; refine (place2_c g7 _).mono ?_; rintro e wp ⟨rfl, rfl⟩) | (go_at_call 62; refine (place3_c g7 _).mono ?_; rintro e wp ⟨rfl, rfl⟩) | (go_at_call 64; refine (place4_c g7 _).mono ?_; rintro e wp ⟨rfl, rfl⟩) | (go_at_call 68; refine (place7_c g7 _).mono ?_; rintro e wp ⟨rfl, rfl⟩) | (go_at_call 67; refine (place8_c g7 _).mono ?_; rintro e wp ⟨rfl, rfl⟩))
                go_roundg (np - (i + 1))
                case measure => have := HG.out; omega
                case rel => exact ⟨i + 1, _, hlt, ⟨rfl⟩, by go_num, ⟨HP.out.cell _ _ HPQ.out⟩, HS2⟩
              · have hcf2 : wr.cell? ⟨gf, i, none⟩ = some (.func (.func 67) #[] #[]) := hcf
                clear hcf
                go_wp2_with (first | (go_at_call 47; refine (number_at HNU.out _).mono ?_; rintro e wn ⟨rfl, hbn⟩; have HP2 := Aside0.mk (HP.out.below hbn); clear HP; have HP := HP2; clear HP2 hbn; obtain ⟨u7, he7⟩ := place_some HQ.out x; have hc7 : wn.cell? ⟨g7, 8, none⟩ = some u7 := (blk_cell HP.out.k7 8).trans he7; have hz7 : wn.frozen? ⟨g7, 8, none⟩ = false := (by have k7 := HP.out.k7; simp [World.frozen?, k7]); clear he7) | (go_at_call 61; refine (place2_c g7 _).mono ?_; rintro e wp ⟨rfl, rfl⟩) | (go_at_call 62; refine (place3_c g7 _).mono ?_; rintro e wp ⟨rfl, rfl⟩) | (go_at_call 64; refine (place4_c g7 _).mono ?_; rintro e wp ⟨rfl, rfl⟩) | (go_at_call 68; refine (place7_c g7 _).mono ?_; rintro e wp ⟨rfl, rfl⟩) | (go_at_call 67; refine (place8_c g7 _).mono ?_; rintro e wp ⟨rfl, rfl⟩))
                go_roundg (np - (i + 1))
                case measure => have := HG.out; omega
                case rel => exact ⟨i + 1, _, hlt, ⟨rfl⟩, by go_num, ⟨HP.out.cell _ _ HPQ.out⟩, HS2⟩
          · obtain rfl : i = np := by omega
            have hfi := HFI.out
            rw [List.drop_eq_nil_of_le (by rw [HN.out]; exact Nat.le_refl _)] at hfi
            have HE2 := Aside0.mk (show r = outA (hx (l2.getD _ ByteArray.empty)) (none) (some x) by rw [HE.out, ← hfi]; rfl)
            have hdk := fil_rows ps l2 (xF kind cmd fb) x hfi.symm
            have HD := Aside0.mk (show x.data = [] from hdk.1)
            have HK := Aside0.mk (show x.keep = [] from hdk.2)
            clear HE HFI hfi hdk
            have kg := HP.out.base.k2
            have c53 : wr.cell? ⟨g5, 3, none⟩ = some (.nilFunc) := HP.out.base.c3
            have hr2 : r = (x, true) := HE2.out
            subst hr2
            go_wp2_with (first | ((with_reducible refine gate_dst (N := 127) rfl ?_); refine Cells.load_at rfl 56 _ rfl ⟨g7, 0, none⟩ rfl (cellsA x (.slice none 0 0) (.slice none 0 0)) _ (lies_block HP.out.k7) Tryd.underlying56 rfl size56 ?_) | ((with_reducible refine Cells.store_whole rfl rfl 56 _ _ rfl g2 ((cellsA x (.slice none 0 0) (.slice none 0 0))) zero56.cells ?sx ?sy kg ?ss ?si ?s1 ?_); (case sx => rfl); (case sy => rfl); (case ss => rfl); (case si => exact size56); (case s1 => rfl); intro w9 kg9 hfar hb3; have HB9 := Aside0.mk (HP.out.base.hb.trans (hb3 _ HP.out.base.n2)); have HF9 := Aside0.mk hfar; clear kg hb3 hfar; have kg := kg9; clear kg9))
            exact bodyPost_ret (results_ct Tryd.results28 _ _ g2 56 _ _ _ rfl kg Tryd.underlying56 rfl size56) rfl ⟨.slice none 0 0, .slice none 0 0, rfl, HD.out ▸ Kd.R_nil _ _ _ _ _, HK.out ▸ Kd.R_nil _ _ _ _ _, HB9.out⟩
set_option maxHeartbeats 4000000 in
set_option maxRecDepth 100000 in
theorem parse_mainS (s : ByteArray) (hs : s.size ≤ 1000000) (w0 : ByteArray) (l : List ByteArray) (hw : words s = w0 :: l) (kind cmd : Int) (ps : List Nat) (p : Nat) (hv : formV w0 = (kind, cmd, ps, some p)) (ok : Bool) (hok : (form w0).isSome = ok) (hps : ps.length ≤ 10) (hpl : ∀ p ∈ ps, p = 2 ∨ p = 3 ∨ p = 4 ∨ p = 7 ∨ p = 8) (hp59 : p = 5 ∨ p = 9) (hx : ByteArray → List Int × Bool) (hhex : ∀ s ∈ l, ∃ k, console_Hex.f k s = some (hx s)) (r : A10 × Bool) (HR : Aside0 (r = if (ok && decide ((if (ok && fuaB kind cmd l (ps.length + 1)) = true then l.take (ps.length + 1) else l).length = ps.length + 1)) = true then outA (hx ((if (ok && fuaB kind cmd l (ps.length + 1)) = true then l.take (ps.length + 1) else l).getD ps.length ByteArray.empty)) (some p) (fil (xF kind cmd (ok && fuaB kind cmd l (ps.length + 1))) ps (if (ok && fuaB kind cmd l (ps.length + 1)) = true then l.take (ps.length + 1) else l)) else (zA, false))) (w : World) : Calls Tryd.prog 28 #[.string s] w (ParsePost w r.1 r.2) := by
  have hu1 := Tryd.underlying56
  have hu3 := Tryd.underlying91
  have hu5 := Tryd.underlying79
  have hu6 := run_neq_fn
  have hu7 := run_neq_nil
  obtain ⟨nl, HL⟩ : ∃ n, Aside0 (l.length = n) := ⟨_, ⟨rfl⟩⟩
  obtain ⟨np, HN⟩ : ∃ n, Aside0 (ps.length = n) := ⟨_, ⟨rfl⟩⟩
  have hnp : np ≤ 10 := HN.out ▸ hps
  clear hps
  have hw1 : wrap64 ((np : Int) + 1) = np + 1 := (by unfold wrap64; omega)
  have ht1 : ((np : Int) + 1).toNat = np + 1 := by omega
  have hw2 : wrap64 ((np : Int) + 1 + 1) = np + 1 + 1 := (by unfold wrap64; omega)
  have hz1 : ((nl : Int) + 1 == 0) = false := beq_eq_false_iff_ne.mpr (by omega)
  have hz2 : (nl + 1 == 0) = false := beq_eq_false_iff_ne.mpr (by omega)
  have hz3 : (0 : Int) < (nl : Int) + 1 := by omega
  go_enter Tryd.func28, Tryd.ntmps28
  go_upto_region 10 with (first | ((with_reducible refine gate_dst (N := 2) rfl ?_); refine Cells.alloc_event rfl (N := 2) rfl 56 rfl zero56 zero74_is ?_; intro g2 hg wa kg hba; have HB := Aside0.mk hba; have HG := Aside0.mk (show w.heap.size ≤ g2 by rw [hg]; exact Nat.le_refl _); clear hg hba) | (go_at_call 45; refine (words_calls s hs _).mono ?_; rintro e wb ⟨v4, rfl, hR, hbb⟩; rw [hw] at hR; have kg2 := blk_below kg hbb; clear kg; have kg := kg2; clear kg2; have HB2 := Aside0.mk (below_step HB.out hbb); clear HB hbb; have HB := HB2; clear HB2; obtain ⟨A, c, hv4, hlc, hrd⟩ := id (strs_R hR); obtain ⟨ad, rfl, hst⟩ := hrd (by simp); have hc0 : wb.cell? ad = some (.string w0) := (by have := hst 0 _ rfl; simpa [Addr.add] using this); have hv5 : v4 = .slice (some ad) (nl + 1) c := (by rw [hv4, List.length_cons, HL.out]); clear hv4; subst hv5; have HS := Aside0.mk (strs_R hR); clear hlc; clear hR hrd hst) | (go_at_call 46; refine (of_at hv hok _).mono ?_; rintro e wc ⟨vn, rfl, hfr, hbc⟩; have kg2 := blk_below kg hbc; clear kg; have kg := kg2; clear kg2; have HB2 := Aside0.mk (below_step HB.out hbc); clear HB; have HB := HB2; clear HB2; have HS2 := Aside0.mk (HS.out.below hbc); clear HS; have HS := HS2; clear HS2; obtain ⟨An, hvn, hfn⟩ := hfr.is; rw [HN.out] at hvn; subst hvn; have HFR := Aside0.mk hfr; clear hfr hfn hbc hc0) | ((with_reducible refine gate_dst (N := 5) rfl ?_); refine Cells.alloc_event rfl (N := 5) rfl 91 rfl zero91 zero113_is ?_; intro g5 hg5 wd kg5 hbd; have HBD := Aside0.mk hbd; have HG5 := Aside0.mk hg5; clear hbd hg5) | ((with_reducible refine Cells.store_whole rfl rfl 91 _ _ rfl g5 [.int .i64 kind, .int .i64 cmd, .slice An np np, bv (some p)] zero91.cells ?sx ?sy kg5 ?ss ?si ?s1 ?_); (case sx => rfl); (case sy => rfl); (case ss => rfl); (case si => exact size91); (case s1 => rfl); intro we kg5b hfar hb3; have hbe := (HBD.out).trans (hb3 _ (by rw [HG5.out]; exact Nat.le_refl _)); have HP := Aside0.mk (show PS w g2 g5 kind cmd (some p) _ _ _ _ we from PS.mk (blk_below kg hbe) kg5b (HS.out.below hbe) (HFR.out.below hbe) (below_step HB.out hbe) HG.out); clear hfar hb3 hbe kg kg5b kg5 HS HFR HB HG HBD HG5; have c50 := HP.out.c0; have c51 := HP.out.c1; have c52 := HP.out.c2; have c53 : we.cell? ⟨g5, 3, none⟩ = some (.func (.func (pf p)) #[] #[]) := HP.out.c3) | ((with_reducible refine gate_dst (N := 29) rfl ?_); refine cut_event rfl rfl rfl HP.out.st ?_; intro A4 c4 hs4; have HP2 := Aside0.mk ({ HP.out with st := hs4 } : PS _ _ _ _ _ _ _ _ _ _ _); clear HP hs4; have HP := HP2; clear HP2) | ((with_reducible refine gate_dst (N := 7) rfl ?_); refine Cells.alloc_event rfl (N := 7) rfl 56 rfl zero56 zero74_is ?_; intro g7 hg7 wf k7 hbf; have HBF := Aside0.mk hbf; have HG7 := Aside0.mk hg7; clear hbf hg7) | ((with_reducible refine Cells.store_whole rfl rfl 56 _ _ rfl g7 (cellsA (xA kind cmd) (.slice none 0 0) (.slice none 0 0)) zero56.cells ?sx ?sy k7 ?ss ?si ?s1 ?_); (case sx => rfl); (case sy => rfl); (case ss => rfl); (case si => exact size56); (case s1 => rfl); intro wg k7b hfar hb7; have HP2 := Aside0.mk (show PS2 w g2 g5 g7 kind cmd (some p) _ l _ ps (xA kind cmd) wg from ⟨⟨_, HP.out, HG7.out.symm, (by have := HBF.out; rw [← HG7.out] at this; exact this.trans (hb7 _ (Nat.le_refl _)))⟩, k7b⟩); clear HP HBF HG7 k7 k7b hfar hb7 c50 c51 c52 c53; have HP := HP2; clear HP2; have c50 := HP.out.base.c0; have c51 := HP.out.base.c1; have c52 := HP.out.base.c2; have c53 : wg.cell? ⟨g5, 3, none⟩ = some (.func (.func (pf p)) #[] #[]) := HP.out.base.c3))
  obtain ⟨fb, HF⟩ : ∃ b, Aside0 ((ok && fuaB kind cmd l ((np + 1))) = b) := ⟨_, ⟨rfl⟩⟩
  go_cut [68] from 44 to 68 (fun v wx => v = .bool fb ∧ wx = wg)
  case first =>
    cases ok with
    | false =>
      go_wp2_with fail
      go_meet
      refine ⟨?_, rfl⟩
      rw [← HF.out]; rfl
    | true =>
      by_cases hk : kind = 0
      · subst hk
        by_cases hc : cmd = 0
        · subst hc
          have HF2 := Aside0.mk (show ((l.length == (np + 1) + 1) && ((l.getD ((np + 1)) ByteArray.empty).toList == ([102, 117, 97] : List UInt8))) = fb from HF.out)
          clear HF
          by_cases hl : nl = (np + 1) + 1
          · subst hl
            obtain ⟨ad4, rfl, -, hcell⟩ := HP.out.base.st.at_ (j := (np + 1)) (by have := HL.out; omega)
            obtain ⟨x, hx⟩ : ∃ x, l.getD ((np + 1)) ByteArray.empty = x := ⟨_, rfl⟩
            have HF3 := Aside0.mk (show (x.toList == ([102, 117, 97] : List UInt8)) = fb by rw [← HF2.out, hx, HL.out]; simp)
            rw [hx] at hcell
            clear HF2 hx
            have hcell2 : wg.cell? ⟨ad4.block, ad4.off + (np + 1), none⟩ = some (.string x) := by simpa [Addr.add] using hcell
            go_wp2_with fail
            go_meet
            refine ⟨?_, rfl⟩
            exact congrArg Value.bool HF3.out
          · have hd1 : ((nl : Int) == (((np:Int) + 1)) + 1) = false := beq_eq_false_iff_ne.mpr (by omega)
            go_wp2_with fail
            go_meet
            refine ⟨?_, rfl⟩
            rw [← HF2.out, HL.out, beq_eq_false_iff_ne.mpr hl]; rfl
        · have hd1 : (cmd == 0) = false := beq_eq_false_iff_ne.mpr hc
          go_wp2_with fail
          go_meet
          refine ⟨?_, rfl⟩
          rw [← HF.out]; unfold fuaB; rw [hd1]; rfl
      · have hd1 : (kind == 0) = false := beq_eq_false_iff_ne.mpr hk
        go_wp2_with fail
        go_meet
        refine ⟨?_, rfl⟩
        rw [← HF.out]; unfold fuaB; rw [hd1]; rfl

  case rest =>
    obtain ⟨h68, h69⟩ := hcut
    subst h68
    subst h69
    obtain ⟨l2, HL2⟩ : ∃ l2, Aside0 ((if fb = true then l.take ((np + 1)) else l) = l2) := ⟨_, ⟨rfl⟩⟩
    obtain ⟨n2, HN2⟩ : ∃ n2, Aside0 (l2.length = n2) := ⟨_, ⟨rfl⟩⟩
    have HR2 := HR.out
    rw [HN.out, HF.out, HL2.out, HN2.out] at HR2
    clear HR
    have HR := Aside0.mk HR2
    clear HR2
    go_upto_if 68 with fail
    go_cut [4] from 69 to 73 (fun v wx => ∃ A c, v = .slice A n2 c ∧ Aside0 (PS2 w g2 g5 g7 kind cmd (some p) v l2 (.slice An np np) ps (xF kind cmd fb) wx))
    case first =>
      cases fb with
      | true =>
        have hf := HF.out
        unfold fuaB at hf
        simp only [Bool.and_eq_true, beq_iff_eq] at hf
        have hnl : nl = (np + 1) + 1 := HL.out ▸ hf.2.1.2
        have hnl2 : (np + 1) = n2 := by have e := HL2.out; rw [if_pos rfl] at e; rw [← HN2.out, ← e, List.length_take, HL.out]; omega
        have hnl3 : l.take ((np + 1)) = l2 := HL2.out
        have HT := Aside0.mk hnl3
        clear hf hnl3
        subst hnl2
        subst hnl
        have hsl := fun W => head_run W A4 ((np + 1) + 1) c4 ((np + 1)) (by have := HP.out.base.st.cap; omega)
        try simp only [Int.natCast_add, Int.cast_ofNat_Int] at hsl
        have k7 := HP.out.k7
        have hc6 : wc.cell? ⟨g7, 6, none⟩ = some (.bool false) := (blk_cell k7 6).trans rfl
        have hz6 : wc.frozen? ⟨g7, 6, none⟩ = false := by simp [World.frozen?, k7]
        clear k7
        go_wp2_with fail
        go_region_with (fail)
        all_goals (go_wp2_with fail; go_meet)
        refine ⟨_, _, rfl, ⟨?_⟩⟩
        have hcut4 : ∀ W, Strs W (.slice A4 ((np + 1) + 1) c4) l → Strs W (.slice A4 ((np + 1)) c4) l2 := fun W h => HT.out ▸ h.take (Nat.le_succ _)
        exact ((HP.out.cell (y := xF kind cmd true) 6 (.bool true) rfl).below (below_drew (Below.refl _ _))).cut hcut4
      | false =>
        have e := HL2.out
        simp only [Bool.false_eq_true, if_false] at e
        subst e
        have e2 := HN2.out.symm.trans HL.out
        subst e2
        go_wp2_with fail
        go_meet
        exact ⟨_, _, rfl, HP⟩
    case rest =>
      clear HP c50 c51 c52 c53
      obtain ⟨A2, c2, h4, HP⟩ := hcut
      subst h4
      have kg := HP.out.base.k2
      have hres : ok = false ∨ (ok = true ∧ n2 ≠ (np + 1)) ∨ (ok = true ∧ n2 = (np + 1)) := by cases ok <;> by_cases h : n2 = (np + 1) <;> simp [h]
      rcases hres with hok2 | ⟨hok2, hne⟩ | ⟨hok2, hn2⟩
      · subst hok2
        have hr2 : r = (zA, false) := by rw [HR.out, if_neg (by simp)]
        subst hr2
        go_wp2_with (first | ((with_reducible refine Cells.store_whole rfl rfl 56 _ _ rfl g2 ([.int .i64 0, .int .i64 0, .int .i64 0, .int .i64 0, .int .i64 0, .slice none 0 0, .bool false, .int .i64 0, .int .i64 0, .slice none 0 0]) zero56.cells ?sx ?sy kg ?ss ?si ?s1 ?_); (case sx => rfl); (case sy => rfl); (case ss => rfl); (case si => exact size56); (case s1 => rfl); intro w9 kg9 hfar hb3; have HB9 := Aside0.mk (HP.out.base.hb.trans (hb3 _ HP.out.base.n2)); have HF9 := Aside0.mk hfar; clear kg hb3 hfar; have kg := kg9; clear kg9))
        exact bodyPost_ret (results_ct Tryd.results28 _ _ g2 56 _ _ _ rfl kg Tryd.underlying56 rfl size56) rfl ⟨.slice none 0 0, .slice none 0 0, rfl, Kd.R_nil _ _ _ _ _, Kd.R_nil _ _ _ _ _, HB9.out⟩
      · subst hok2
        have hr2 : r = (zA, false) := by rw [HR.out, if_neg (by simp [hne])]
        subst hr2
        have hd1 : ((n2 : Int) != ((np:Int) + 1)) = true := bne_iff_ne.mpr (by omega)
        go_wp2_with (first | ((with_reducible refine Cells.store_whole rfl rfl 56 _ _ rfl g2 ([.int .i64 0, .int .i64 0, .int .i64 0, .int .i64 0, .int .i64 0, .slice none 0 0, .bool false, .int .i64 0, .int .i64 0, .slice none 0 0]) zero56.cells ?sx ?sy kg ?ss ?si ?s1 ?_); (case sx => rfl); (case sy => rfl); (case ss => rfl); (case si => exact size56); (case s1 => rfl); intro w9 kg9 hfar hb3; have HB9 := Aside0.mk (HP.out.base.hb.trans (hb3 _ HP.out.base.n2)); have HF9 := Aside0.mk hfar; clear kg hb3 hfar; have kg := kg9; clear kg9))
        exact bodyPost_ret (results_ct Tryd.results28 _ _ g2 56 _ _ _ rfl kg Tryd.underlying56 rfl size56) rfl ⟨.slice none 0 0, .slice none 0 0, rfl, Kd.R_nil _ _ _ _ _, Kd.R_nil _ _ _ _ _, HB9.out⟩
      · subst hok2
        have hn3 := hn2.symm
        clear hn2
        subst hn3
        have HE := Aside0.mk (show r = outA (hx (l2.getD np ByteArray.empty)) (some p) (fil (xF kind cmd fb) ps l2) by rw [HR.out, if_pos (by simp)])
        clear HR
        have c52 := HP.out.base.c2
        clear kg
        go_wp2_with fail
        go_loopg [86] np (fun g v wr => ∃ (i : Nat) (x : A10), i ≤ np ∧ Aside0 (g = np - i) ∧ v = .int .i64 i ∧ Aside0 (PS2 w g2 g5 g7 kind cmd (some p) (.slice A2 ((np + 1)) c2) l2 (.slice An np np) ps x wr) ∧ Aside0 (fil x (ps.drop i) (l2.drop i) = fil (xF kind cmd fb) ps l2))
        case atStart => exact ⟨0, _, Nat.zero_le _, ⟨rfl⟩, rfl, HP, ⟨rfl⟩⟩
        case round =>
          clear HP c52
          obtain ⟨i, x, hi, HG, rfl, HP, HFI⟩ := hrel
          by_cases hlt : i < np
          · have hi1 : i < ps.length := by rw [HN.out]; exact hlt
            obtain ⟨q, hq⟩ : ∃ q, ps[i]? = some q := ⟨_, List.getElem?_eq_getElem hi1⟩
            have hqd : ps.drop i = q :: ps.drop (i + 1) := drop_at hq
            have hqm := hpl q (List.mem_of_getElem? hq)
            have hi2 : i < l2.length := by rw [HN2.out]; omega
            obtain ⟨ad2, hA2, -, hcs⟩ := HP.out.base.st.at_ hi2
            subst hA2
            obtain ⟨tx, htx⟩ : ∃ t, l2.getD i ByteArray.empty = t := ⟨_, rfl⟩
            have hld : l2.drop i = tx :: l2.drop (i + 1) := drop_at (by rw [← htx, List.getD_eq_getElem?_getD, List.getElem?_eq_getElem hi2]; rfl)
            rw [htx] at hcs
            obtain ⟨An', hAn, hfn⟩ := HP.out.base.fr.is
            obtain ⟨gf, hgf, hfb⟩ := hfn (by intro h0; simp [h0] at hi1)
            have hAn2 : An = some ⟨gf, 0, none⟩ := by simp only [Value.slice.injEq] at hAn; rw [hAn.1]; exact hgf
            clear hAn hfn hgf
            subst hAn2
            have hcf : wr.cell? ⟨gf, i, none⟩ = some (.func (.func (pf q)) #[] #[]) := (blk_cell hfb i).trans (by simp [hq, fv])
            obtain ⟨nv, nb, hnum⟩ : ∃ nv nb, numb tx = (nv, nb) := ⟨_, _, rfl⟩
            have hst : fil x (ps.drop i) (l2.drop i) = if nb = true then fil (setP x q nv) (ps.drop (i + 1)) (l2.drop (i + 1)) else none := by rw [hqd, hld]; show (if (numb tx).2 = true then _ else _) = _; rw [hnum]
            rw [HFI.out] at hst
            have HS := Aside0.mk hst
            have HNU := Aside0.mk hnum
            have HQ := Aside0.mk hqm
            clear hst hnum hqm hfb htx hld hq hqd hi1 hi2 HFI
            cases nb with
            | false =>
              have hr2 : r = (zA, false) := by rw [HE.out, HS.out]; rfl
              subst hr2
              go_wp2_with (first | (go_at_call 47; refine (number_at HNU.out _).mono ?_; rintro e wn ⟨rfl, hbn⟩; have HP2 := Aside0.mk (HP.out.below hbn); clear HP; have HP := HP2; clear HP2 hbn; have kg := HP.out.base.k2) | ((with_reducible refine Cells.store_whole rfl rfl 56 _ _ rfl g2 ([.int .i64 0, .int .i64 0, .int .i64 0, .int .i64 0, .int .i64 0, .slice none 0 0, .bool false, .int .i64 0, .int .i64 0, .slice none 0 0]) zero56.cells ?sx ?sy kg ?ss ?si ?s1 ?_); (case sx => rfl); (case sy => rfl); (case ss => rfl); (case si => exact size56); (case s1 => rfl); intro w9 kg9 hfar hb3; have HB9 := Aside0.mk (HP.out.base.hb.trans (hb3 _ HP.out.base.n2)); have HF9 := Aside0.mk hfar; clear kg hb3 hfar; have kg := kg9; clear kg9))
              exact bodyPost_ret (results_ct Tryd.results28 _ _ g2 56 _ _ _ rfl kg Tryd.underlying56 rfl size56) rfl ⟨.slice none 0 0, .slice none 0 0, rfl, Kd.R_nil _ _ _ _ _, Kd.R_nil _ _ _ _ _, HB9.out⟩
            | true =>
              have HPQ := Aside0.mk (placeN HQ.out (x := x) (.slice none 0 0) (.slice none 0 0) nv)
              have HS2 := Aside0.mk (show fil (setP x q nv) (ps.drop (i + 1)) (l2.drop (i + 1)) = fil (xF kind cmd fb) ps l2 from HS.out.symm)
              clear HS
              have hq := HQ.out
              rcases hq with rfl | rfl | rfl | rfl | rfl
              · have hcf2 : wr.cell? ⟨gf, i, none⟩ = some (.func (.func 61) #[] #[]) := hcf
                clear hcf
                go_wp2_with (first | (go_at_call 47; refine (number_at HNU.out _).mono ?_; rintro e wn ⟨rfl, hbn⟩; have HP2 := Aside0.mk (HP.out.below hbn); clear HP; have HP := HP2; clear HP2 hbn; obtain ⟨u7, he7⟩ := place_some HQ.out x; have hc7 : wn.cell? ⟨g7, 2, none⟩ = some u7 := (blk_cell HP.out.k7 2).trans he7; have hz7 : wn.frozen? ⟨g7, 2, none⟩ = false := (by have k7 := HP.out.k7; simp [World.frozen?, k7]); clear he7) | (go_at_call 61; refine (place2_c g7 _).mono ?_; rintro e wp ⟨rfl, rfl⟩) | (go_at_call 62; refine (place3_c g7 _).mono ?_; rintro e wp ⟨rfl, rfl⟩) | (go_at_call 64; refine (place4_c g7 _).mono ?_; rintro e wp ⟨rfl, rfl⟩) | (go_at_call 68; refine (place7_c g7 _).mono ?_; rintro e wp ⟨rfl, rfl⟩) | (go_at_call 67; refine (place8_c g7 _).mono ?_; rintro e wp ⟨rfl, rfl⟩))
                go_roundg (np - (i + 1))
                case measure => have := HG.out; omega
                case rel => exact ⟨i + 1, _, hlt, ⟨rfl⟩, by go_num, ⟨HP.out.cell _ _ HPQ.out⟩, HS2⟩
              · have hcf2 : wr.cell? ⟨gf, i, none⟩ = some (.func (.func 62) #[] #[]) := hcf
                clear hcf
                go_wp2_with (first | (go_at_call 47; refine (number_at HNU.out _).mono ?_; rintro e wn ⟨rfl, hbn⟩; have HP2 := Aside0.mk (HP.out.below hbn); clear HP; have HP := HP2; clear HP2 hbn; obtain ⟨u7, he7⟩ := place_some HQ.out x; have hc7 : wn.cell? ⟨g7, 3, none⟩ = some u7 := (blk_cell HP.out.k7 3).trans he7; have hz7 : wn.frozen? ⟨g7, 3, none⟩ = false := (by have k7 := HP.out.k7; simp [World.frozen?, k7]); clear he7) | (go_at_call 61; refine (place2_c g7 _).mono ?_; rintro e wp ⟨rfl, rfl⟩) | (go_at_call 62; refine (place3_c g7 _).mono ?_; rintro e wp ⟨rfl, rfl⟩) | (go_at_call 64; refine (place4_c g7 _).mono ?_; rintro e wp ⟨rfl, rfl⟩) | (go_at_call 68; refine (place7_c g7 _).mono ?_; rintro e wp ⟨rfl, rfl⟩) | (go_at_call 67; refine (place8_c g7 _).mono ?_; rintro e wp ⟨rfl, rfl⟩))
                go_roundg (np - (i + 1))
                case measure => have := HG.out; omega
                case rel => exact ⟨i + 1, _, hlt, ⟨rfl⟩, by go_num, ⟨HP.out.cell _ _ HPQ.out⟩, HS2⟩
              · have hcf2 : wr.cell? ⟨gf, i, none⟩ = some (.func (.func 64) #[] #[]) := hcf
                clear hcf
                go_wp2_with (first | (go_at_call 47; refine (number_at HNU.out _).mono ?_; rintro e wn ⟨rfl, hbn⟩; have HP2 := Aside0.mk (HP.out.below hbn); clear HP; have HP := HP2; clear HP2 hbn; obtain ⟨u7, he7⟩ := place_some HQ.out x; have hc7 : wn.cell? ⟨g7, 4, none⟩ = some u7 := (blk_cell HP.out.k7 4).trans he7; have hz7 : wn.frozen? ⟨g7, 4, none⟩ = false := (by have k7 := HP.out.k7; simp [World.frozen?, k7]); clear he7) | (go_at_call 61; refine (place2_c g7 _).mono ?_; rintro e wp ⟨rfl, rfl⟩) | (go_at_call 62; refine (place3_c g7 _).mono ?_; rintro e wp ⟨rfl, rfl⟩) | (go_at_call 64; refine (place4_c g7 _).mono ?_; rintro e wp ⟨rfl, rfl⟩) | (go_at_call 68; refine (place7_c g7 _).mono ?_; rintro e wp ⟨rfl, rfl⟩) | (go_at_call 67; refine (place8_c g7 _).mono ?_; rintro e wp ⟨rfl, rfl⟩))
                go_roundg (np - (i + 1))
                case measure => have := HG.out; omega
                case rel => exact ⟨i + 1, _, hlt, ⟨rfl⟩, by go_num, ⟨HP.out.cell _ _ HPQ.out⟩, HS2⟩
              · have hcf2 : wr.cell? ⟨gf, i, none⟩ = some (.func (.func 68) #[] #[]) := hcf
                clear hcf
                go_wp2_with (first | (go_at_call 47; refine (number_at HNU.out _).mono ?_; rintro e wn ⟨rfl, hbn⟩; have HP2 := Aside0.mk (HP.out.below hbn); clear HP; have HP := HP2; clear HP2 hbn; obtain ⟨u7, he7⟩ := place_some HQ.out x; have hc7 : wn.cell? ⟨g7, 7, none⟩ = some u7 := (blk_cell HP.out.k7 7).trans he7; have hz7 : wn.frozen? ⟨g7, 7, none⟩ = false := (by have k7 := HP.out.k7; simp [World.frozen?, k7]); clear he7) | (go_at_call 61; refine (place2_c g7 _).mono ?_; rintro e wp ⟨rfl, rfl⟩) | (go_at_call 62; refine (place3_c g7 _).mono ?_; rintro e wp ⟨rfl, rfl⟩) | (go_at_call 64; refine (place4_c g7 _).mono ?_; rintro e wp ⟨rfl, rfl⟩) | (go_at_call 68; refine (place7_c g7 _).mono ?_; rintro e wp ⟨rfl, rfl⟩) | (go_at_call 67; refine (place8_c g7 _).mono ?_; rintro e wp ⟨rfl, rfl⟩))
                go_roundg (np - (i + 1))
                case measure => have := HG.out; omega
                case rel => exact ⟨i + 1, _, hlt, ⟨rfl⟩, by go_num, ⟨HP.out.cell _ _ HPQ.out⟩, HS2⟩
              · have hcf2 : wr.cell? ⟨gf, i, none⟩ = some (.func (.func 67) #[] #[]) := hcf
                clear hcf
                go_wp2_with (first | (go_at_call 47; refine (number_at HNU.out _).mono ?_; rintro e wn ⟨rfl, hbn⟩; have HP2 := Aside0.mk (HP.out.below hbn); clear HP; have HP := HP2; clear HP2 hbn; obtain ⟨u7, he7⟩ := place_some HQ.out x; have hc7 : wn.cell? ⟨g7, 8, none⟩ = some u7 := (blk_cell HP.out.k7 8).trans he7; have hz7 : wn.frozen? ⟨g7, 8, none⟩ = false := (by have k7 := HP.out.k7; simp [World.frozen?, k7]); clear he7) | (go_at_call 61; refine (place2_c g7 _).mono ?_; rintro e wp ⟨rfl, rfl⟩) | (go_at_call 62; refine (place3_c g7 _).mono ?_; rintro e wp ⟨rfl, rfl⟩) | (go_at_call 64; refine (place4_c g7 _).mono ?_; rintro e wp ⟨rfl, rfl⟩) | (go_at_call 68; refine (place7_c g7 _).mono ?_; rintro e wp ⟨rfl, rfl⟩) | (go_at_call 67; refine (place8_c g7 _).mono ?_; rintro e wp ⟨rfl, rfl⟩))
                go_roundg (np - (i + 1))
                case measure => have := HG.out; omega
                case rel => exact ⟨i + 1, _, hlt, ⟨rfl⟩, by go_num, ⟨HP.out.cell _ _ HPQ.out⟩, HS2⟩
          · obtain rfl : i = np := by omega
            have hfi := HFI.out
            rw [List.drop_eq_nil_of_le (by rw [HN.out]; exact Nat.le_refl _)] at hfi
            have HE2 := Aside0.mk (show r = outA (hx (l2.getD _ ByteArray.empty)) (some p) (some x) by rw [HE.out, ← hfi]; rfl)
            have hdk := fil_rows ps l2 (xF kind cmd fb) x hfi.symm
            have HD := Aside0.mk (show x.data = [] from hdk.1)
            have HK := Aside0.mk (show x.keep = [] from hdk.2)
            clear HE HFI hfi hdk
            have kg := HP.out.base.k2
            have c53 : wr.cell? ⟨g5, 3, none⟩ = some (.func (.func (pf p)) #[] #[]) := HP.out.base.c3
            have hi2 : i < l2.length := by rw [HN2.out]; omega
            obtain ⟨ad2, hA2, -, hcs⟩ := HP.out.base.st.at_ hi2
            subst hA2
            obtain ⟨tx, htx⟩ : ∃ t, l2.getD i ByteArray.empty = t := ⟨_, rfl⟩
            have htm : tx ∈ l := by
              have h1 : tx ∈ l2 := by rw [← htx, List.getD_eq_getElem?_getD, List.getElem?_eq_getElem hi2]; exact List.getElem_mem hi2
              rw [← HL2.out] at h1
              split at h1
              · exact List.mem_of_mem_take h1
              · exact h1
            obtain ⟨hk, hhk⟩ := hhex tx htm
            obtain ⟨r1, r2, hhx⟩ : ∃ r1 r2, hx tx = (r1, r2) := ⟨_, _, rfl⟩
            rw [hhx] at hhk
            rw [htx] at hcs
            have HX := Aside0.mk (show hx (l2.getD i ByteArray.empty) = (r1, r2) by rw [htx, hhx])
            have HHK := Aside0.mk hhk
            skip
            have hw3 : wrap64 ((i : Int)) = i := by (unfold wrap64; omega)
            have hw4 : wrap64 ((i : Int) + 1 - 1) = i := by (unfold wrap64; omega)
            clear hhk hhx htx htm hi2 kg
            cases r2 with
            | false =>
              have hr2 : r = (zA, false) := by rw [HE2.out]; simp only [outA, HX.out]; rfl
              subst hr2
              go_wp2_with (first | (go_at_call 48; refine (console_Hex.calls hk tx r1 false _ HHK.out).mono ?_; rintro e wh ⟨v0, rfl, hR0, hbh⟩; have HP2 := Aside0.mk (HP.out.below hbh); clear HP; have HP := HP2; clear HP2 hbh hR0; have kg := HP.out.base.k2) | ((with_reducible refine Cells.store_whole rfl rfl 56 _ _ rfl g2 ([.int .i64 0, .int .i64 0, .int .i64 0, .int .i64 0, .int .i64 0, .slice none 0 0, .bool false, .int .i64 0, .int .i64 0, .slice none 0 0]) zero56.cells ?sx ?sy kg ?ss ?si ?s1 ?_); (case sx => rfl); (case sy => rfl); (case ss => rfl); (case si => exact size56); (case s1 => rfl); intro w9 kg9 hfar hb3; have HB9 := Aside0.mk (HP.out.base.hb.trans (hb3 _ HP.out.base.n2)); have HF9 := Aside0.mk hfar; clear kg hb3 hfar; have kg := kg9; clear kg9))
              exact bodyPost_ret (results_ct Tryd.results28 _ _ g2 56 _ _ _ rfl kg Tryd.underlying56 rfl size56) rfl ⟨.slice none 0 0, .slice none 0 0, rfl, Kd.R_nil _ _ _ _ _, Kd.R_nil _ _ _ _ _, HB9.out⟩
            | true =>
              rcases hp59 with rfl | rfl
              · have hr2 : r = (setB x 5 r1, true) := by rw [HE2.out]; simp only [outA, HX.out]; rfl
                subst hr2
                have c53b : wr.cell? ⟨g5, 3, none⟩ = some (.func (.func 63) #[] #[]) := c53
                clear c53
                go_wp2_with (first | (go_at_call 48; refine (console_Hex.calls hk tx r1 true _ HHK.out).mono ?_; rintro e wh ⟨v0, rfl, hR0, hbh⟩; obtain ⟨A0, c0, rfl, -, -⟩ := Kd.R_reads hR0; have HG70 := Aside0.mk (blk_lt HP.out.k7); have HG20 := Aside0.mk (blk_lt HP.out.base.k2); have HR0 := Aside0.mk hR0; have HP2 := Aside0.mk (HP.out.below hbh); have HBR := Aside0.mk (HP.out.base.hb.size); clear HP; have HP := HP2; clear HP2 hbh hR0; have c53 : wh.cell? ⟨g5, 3, none⟩ = some (.func (.func 63) #[] #[]) := HP.out.base.c3; have hc7 : wh.cell? ⟨g7, 5, none⟩ = some (.slice none 0 0) := (blk_cell HP.out.k7 5).trans rfl; have hz7 : wh.frozen? ⟨g7, 5, none⟩ = false := (by have k7 := HP.out.k7; simp [World.frozen?, k7])) | (go_at_call 63; refine (place5_c g7 _).mono ?_; rintro e wp ⟨rfl, rfl⟩; have kg := blk_far (p := ⟨g7, 5, none⟩) HP.out.base.k2 (Nat.ne_of_lt HP.out.ne2) (.slice A0 r1.length c0)) | ((with_reducible refine gate_dst (N := 127) rfl ?_); refine Cells.load_at rfl 56 _ rfl ⟨g7, 0, none⟩ rfl (cellsA (setB x 5 r1) (.slice A0 r1.length c0) (.slice none 0 0)) _ (lies_block (blk_put HP.out.k7 5 _ rfl)) Tryd.underlying56 rfl size56 ?_) | ((with_reducible refine Cells.store_whole rfl rfl 56 _ _ rfl g2 (cellsA (setB x 5 r1) (.slice A0 r1.length c0) (.slice none 0 0)) zero56.cells ?sx ?sy kg ?ss ?si ?s1 ?_); (case sx => rfl); (case sy => rfl); (case ss => rfl); (case si => exact size56); (case s1 => rfl); intro w9 kg hfar hb3; have HB9 := Aside0.mk ((below_set (j := 5) (v := .slice A0 r1.length c0) HP.out.base.hb HP.out.low).trans (hb3 _ HP.out.base.n2)); have HR9 := Aside0.mk (R_keep (R_keep HR0.out HG70.out (fun k hk => Below.heap_setCell _ ⟨g7, 5, none⟩ (.slice A0 r1.length c0) k hk)) HG20.out hfar); clear hb3 hfar))
                exact bodyPost_ret (results_ct Tryd.results28 _ _ g2 56 _ _ _ rfl kg Tryd.underlying56 rfl size56) rfl ⟨_, _, rfl, Kd.R_lower HR9.out HBR.out, HK.out ▸ Kd.R_nil _ _ _ _ _, HB9.out⟩
              · have hr2 : r = (setB x 9 r1, true) := by rw [HE2.out]; simp only [outA, HX.out]; rfl
                subst hr2
                have c53b : wr.cell? ⟨g5, 3, none⟩ = some (.func (.func 69) #[] #[]) := c53
                clear c53
                go_wp2_with (first | (go_at_call 48; refine (console_Hex.calls hk tx r1 true _ HHK.out).mono ?_; rintro e wh ⟨v0, rfl, hR0, hbh⟩; obtain ⟨A0, c0, rfl, -, -⟩ := Kd.R_reads hR0; have HG70 := Aside0.mk (blk_lt HP.out.k7); have HG20 := Aside0.mk (blk_lt HP.out.base.k2); have HR0 := Aside0.mk hR0; have HP2 := Aside0.mk (HP.out.below hbh); have HBR := Aside0.mk (HP.out.base.hb.size); clear HP; have HP := HP2; clear HP2 hbh hR0; have c53 : wh.cell? ⟨g5, 3, none⟩ = some (.func (.func 69) #[] #[]) := HP.out.base.c3; have hc7 : wh.cell? ⟨g7, 9, none⟩ = some (.slice none 0 0) := (blk_cell HP.out.k7 9).trans rfl; have hz7 : wh.frozen? ⟨g7, 9, none⟩ = false := (by have k7 := HP.out.k7; simp [World.frozen?, k7])) | (go_at_call 69; refine (place9_c g7 _).mono ?_; rintro e wp ⟨rfl, rfl⟩; have kg := blk_far (p := ⟨g7, 9, none⟩) HP.out.base.k2 (Nat.ne_of_lt HP.out.ne2) (.slice A0 r1.length c0)) | ((with_reducible refine gate_dst (N := 127) rfl ?_); refine Cells.load_at rfl 56 _ rfl ⟨g7, 0, none⟩ rfl (cellsA (setB x 9 r1) (.slice none 0 0) (.slice A0 r1.length c0)) _ (lies_block (blk_put HP.out.k7 9 _ rfl)) Tryd.underlying56 rfl size56 ?_) | ((with_reducible refine Cells.store_whole rfl rfl 56 _ _ rfl g2 (cellsA (setB x 9 r1) (.slice none 0 0) (.slice A0 r1.length c0)) zero56.cells ?sx ?sy kg ?ss ?si ?s1 ?_); (case sx => rfl); (case sy => rfl); (case ss => rfl); (case si => exact size56); (case s1 => rfl); intro w9 kg hfar hb3; have HB9 := Aside0.mk ((below_set (j := 9) (v := .slice A0 r1.length c0) HP.out.base.hb HP.out.low).trans (hb3 _ HP.out.base.n2)); have HR9 := Aside0.mk (R_keep (R_keep HR0.out HG70.out (fun k hk => Below.heap_setCell _ ⟨g7, 9, none⟩ (.slice A0 r1.length c0) k hk)) HG20.out hfar); clear hb3 hfar))
                exact bodyPost_ret (results_ct Tryd.results28 _ _ g2 56 _ _ _ rfl kg Tryd.underlying56 rfl size56) rfl ⟨_, _, rfl, HD.out ▸ Kd.R_nil _ _ _ _ _, Kd.R_lower HR9.out HBR.out, HB9.out⟩
end Go.Proofs.YtlhmpmmblnbmbaaDoor.Con
