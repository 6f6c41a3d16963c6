/- The document's Parse, walked. -/
import Derived.Test.YtlhmpmmblnbmbaaDoorConRefP
set_option linter.unusedVariables false
set_option linter.unusedSimpArgs false
namespace Go.Proofs.YtlhmpmmblnbmbaaDoor.Con
open Go.Lib Go.RowKit Go.Proofs.YtlhmpmmblnbmbaaDoor.Ev Go.Proofs.YtlhmpmmblnbmbaaDoor.Ke Go.Proofs.YtlhmpmmblnbmbaaDoor.Cells Go.Proofs.YtlhmpmmblnbmbaaDoor.PConsoleParses Go.Proofs.YtlhmpmmblnbmbaaDoorW.PrintWords Go.Proofs.YtlhmpmmblnbmbaaDoorW.PrintLast Go.Proofs.YtlhmpmmblnbmbaaDoorW.PrintMore WordsPlain NumberPlain
theorem toList_inj {s t : ByteArray} (h : s.toList = t.toList) : s = t := by
  rw [ByteArray.toList_eq, ByteArray.toList_eq] at h
  exact ByteArray.ext (Array.toList_inj.1 h)
theorem Strs.all {w : World} {A : Option Addr} {n c : Nat} {l : List ByteArray} (h : Strs w (.slice A n c) l) (hn : l ≠ []) : ∃ ad, A = some ad ∧ n = l.length ∧ n ≤ c ∧ ∀ j, j < l.length → w.cell? (ad.add (j * 1)) = some (.string (l.getD j ByteArray.empty)) := by
  obtain ⟨A', c', h1, h2, h4⟩ := h
  simp only [Value.slice.injEq] at h1
  obtain ⟨rfl, rfl, rfl⟩ := h1
  obtain ⟨ad, h5, h6⟩ := h4 hn
  refine ⟨ad, h5, rfl, h2, fun j hj => ?_⟩
  rw [Nat.mul_one]
  refine h6 j _ ?_
  rw [List.getD_eq_getElem?_getD, List.getElem?_eq_getElem hj]; rfl
def HexV (r1 : List Int) (r2 : Bool) (base : Nat) (v : Value) (w : World) : Prop := ∃ v0 : Value, v = .tuple #[v0, .bool r2] ∧ Kd.R (Kd.int .u8) 5 w base (fun _ => True) v0 r1
theorem HexV.below {r1 : List Int} {r2 : Bool} {base : Nat} {v : Value} {w w1 : World} (h : HexV r1 r2 base v w) (hb : Below w.heap.size w w1) : HexV r1 r2 base v w1 := by
  obtain ⟨v0, e, hR⟩ := h
  exact ⟨v0, e, Kd.R_below hR hb⟩
theorem fill_at {kd cm : Int} {fb : Bool} {n0 n1 n2 : Int} {A : Option Addr} {nb cb : Nat} {F : List Value} (h : fillC kd cm fb n0 n1 n2 (.slice A nb cb) = F) (w : World) : Calls Tryd.prog 53 #[.agg #[.int .i64 kd, .int .i64 cm, .int .i64 0, .int .i64 0, .int .i64 0, .slice none 0 0, .bool fb, .int .i64 0, .int .i64 0, .slice none 0 0], .agg #[.int .i64 n0, .int .i64 n1, .int .i64 n2], .slice A nb cb] w fun e w' => e = .returned (.agg F.toArray) ∧ Below w.heap.size w w' := by
  subst h; exact fill_c _ _ _ _ _ _ _ _ _ w
theorem fua_eq {i : Nat} (hi : i < 15) (l : List ByteArray) : fuaB (frm i).1 (frm i).2.1 l (nB i) = (decide (i = 0) && decide (l.length = nB i + 1) && ((l.getD (nB i) ByteArray.empty).toList == (⟨#[102, 117, 97]⟩ : ByteArray).toList)) := by
  have h := (frm_small ⟨i, hi⟩).2.1
  simp only at h
  have e : (⟨#[102, 117, 97]⟩ : ByteArray).toList = [102, 117, 97] := by rw [ByteArray.toList_eq]
  unfold fuaB
  rw [e]
  congr 1
  rw [show (l.length == nB i + 1) = decide (l.length = nB i + 1) from rfl]
  congr 1
  by_cases h0 : i = 0
  · obtain ⟨h1, h2⟩ := h.2 h0
    rw [h1, h2, decide_eq_true h0]; rfl
  · rw [decide_eq_false h0]
    by_cases h1 : (frm i).1 = 0
    · have : (frm i).2.1 ≠ 0 := fun h2 => h0 (h.1 ⟨h1, h2⟩)
      rw [beq_eq_false_iff_ne.2 this, Bool.and_false]
    · rw [beq_eq_false_iff_ne.2 h1, Bool.false_and]
theorem take_get {l l2 : List ByteArray} {fb : Bool} {m : Nat} (h : (if fb = true then l.take m else l) = l2) {j : Nat} (hj : j < l2.length) : j < l.length ∧ l.getD j ByteArray.empty = l2.getD j ByteArray.empty := by
  subst h
  cases fb with
  | false => exact ⟨hj, rfl⟩
  | true =>
    rw [if_pos rfl] at hj ⊢
    rw [List.length_take] at hj
    refine ⟨by omega, ?_⟩
    rw [List.getD_eq_getElem?_getD, List.getD_eq_getElem?_getD, List.getElem?_take, if_pos (by omega)]
set_option maxHeartbeats 4000000 in
set_option maxRecDepth 100000 in
theorem rparse_nil (s : ByteArray) (hs : s.size ≤ 1000000) (hL : words s = []) (w : World) : Calls Tryd.prog 29 #[.string s] w (ParsePost w zA false) := by
  obtain ⟨kw, hkw⟩ := ref_words s hs
  rw [hL] at hkw
  have HKW := Aside0.mk hkw
  clear hkw
  go_enter Tryd.func29, Tryd.ntmps29
  go_upto_region 0 with fail
  refine wp_region_lit ?_
  refine ealloc rfl rfl zero56_is ?_
  intro g1 hg1 W1 hk1 hb1
  have Kg1 := Aside0.mk hk1
  have HB1 := Aside0.mk hb1
  clear hb1
  have Gg1 := Aside0.mk (show w.heap.size ≤ g1 by rw [hg1]; exact Nat.le_refl _)
  clear hg1 hk1
  simp only [Act.put, List.setIfInBounds_toArray, List.set_cons_zero, List.set_cons_succ]
  refine Flow.seqL (E := fun u v => Below u.heap.size u v) 1 1 [(some 2, []), (some 3, [])] (fun iQ vQ wQ => match iQ with | 1 => vQ = (.bool false) | _ => True) rfl (by decide) (by kernel_rfl) (Below.refl _ _) (fun _ _ _ h k => h.trans (k.mono h.size)) (fun _ _ _ _ h _ => h) ?_ ?_
  · refine ⟨?_, trivial⟩
    · intro a w' hx hu hd K hK; exact Flow.run1 rfl (Flow.r_assign rfl rfl) (hK _ _ (Below.refl _ _) rfl)
  intro vs W2 hb2 hT
  have v1 := Flow.eqn (hT 1 (by decide) (by decide))
  simp only [Flow.putsT, v1, Act.put, List.setIfInBounds_toArray, List.set_cons_zero, List.set_cons_succ, List.drop_succ_cons, List.drop_zero, List.take_succ_cons, List.take_zero]
  clear hT v1
  have HB2 := Aside0.mk (below_step HB1.out hb2)
  have Kg1_2 := Aside0.mk (blk_below Kg1.out hb2)
  clear hb2
  go_upto_region 1 with fail
  refine Flow.seqT_head (E := fun u v => Below u.heap.size u v) 2 [(some 20, []), (some 21, [0]), (some 4, [1, 1, 0, 1])] (fun iQ vQ wQ => match iQ with | 0 => vQ = (.string s) | 1 => Strs wQ vQ ([]) | _ => True) rfl (by decide) (by kernel_rfl) (Below.refl _ _) (fun _ _ _ h k => h.trans (k.mono h.size)) (fun iQ vQ w1Q w2Q hQ hEQ => match iQ, hQ with | 0, hQ => hQ | 1, hQ => hQ.below hEQ | _ + 2, _ => trivial) ?_ ?_
  · refine ⟨?_, ?_, trivial⟩
    · intro a w' hx hu hd K hK; have e0 : a.tmps.getD 0 undef = (.string s) := hu 0 rfl; exact Flow.run1 rfl (Flow.r_move rfl e0) (hK _ _ (Below.refl _ _) rfl)
    · intro a w' hx hu hd K hK; have e20 := Flow.got (hd 0 rfl) 20 rfl; refine Flow.want rfl ?_; refine Flow.val_call rfl Tryd.func49 (by kernel_rfl) rfl (by first | (simp only [List.map_toArray, List.map_cons, List.map_nil, Act.eval, e20]; done) | (simp only [List.map_toArray, List.map_cons, List.map_nil, Act.eval, e20]; rfl)) (revetmentref37_Words.calls kw s ([]) w' HKW.out) ?_; rintro e w2 ⟨v0, rfl, hR, hb2⟩; exact ⟨_, rfl, hK _ _ hb2 (strs_R hR)⟩
  intro vs W3 hb3 hT
  have v0 := Flow.eqn (hT 0 (by decide))
  obtain ⟨A1, c1, v1, -, -⟩ := id (hT 1 (by decide) : Strs _ _ ([]))
  have v1 : _ = Value.slice A1 0 c1 := v1
  have HQ1 : Aside0 (Strs W3 (.slice A1 0 c1) ([])) := ⟨v1 ▸ hT 1 (by decide)⟩
  simp only [Flow.putsT, v0, v1, Act.put, List.setIfInBounds_toArray, List.set_cons_zero, List.set_cons_succ, List.drop_succ_cons, List.drop_zero, List.take_succ_cons, List.take_zero]
  clear hT v0 v1
  have HB3 := Aside0.mk (below_step HB2.out hb3)
  have Kg1_2_3 := Aside0.mk (blk_below Kg1_2.out hb3)
  clear hb3
  refine Flow.seqL (E := fun u v => Below u.heap.size u v) 2 1 [(some 20, []), (some 21, [0]), (some 4, [1, 1, 0, 1])] (fun iQ vQ wQ => match iQ with | 2 => vQ = (.slice A1 0 c1) | _ => True) rfl (by decide) (by kernel_rfl) (Below.refl _ _) (fun _ _ _ h k => h.trans (k.mono h.size)) (fun _ _ _ _ h _ => h) ?_ ?_
  · refine ⟨?_, trivial⟩
    · intro a w' hx hu hd K hK; have e21 : a.tmps.getD 21 undef = (.slice A1 0 c1) := hu 21 rfl; exact Flow.run1 rfl (Flow.r_assign rfl e21) (hK _ _ (Below.refl _ _) rfl)
  intro vs W4 hb4 hT
  have v2 := Flow.eqn (hT 2 (by decide) (by decide))
  simp only [Flow.putsT, v2, Act.put, List.setIfInBounds_toArray, List.set_cons_zero, List.set_cons_succ, List.drop_succ_cons, List.drop_zero, List.take_succ_cons, List.take_zero]
  clear hT v2
  have HB4 := Aside0.mk (below_step HB3.out hb4)
  have HQ1_4 := Aside0.mk (Strs.below HQ1.out hb4)
  have Kg1_2_3_4 := Aside0.mk (blk_below Kg1_2_3.out hb4)
  clear hb4
  go_upto_region 2 with fail
  refine Flow.seqT (E := fun u v => Below u.heap.size u v) [(some 22, []), (some 23, [0]), (some 24, [1])] (fun iQ vQ wQ => match iQ with | 0 => vQ = (.slice A1 0 c1) | 1 => vQ = (.int .i64 0) | 2 => vQ = (.bool true) | _ => True) rfl (by kernel_rfl) (Below.refl _ _) (fun _ _ _ h k => h.trans (k.mono h.size)) (fun _ _ _ _ h _ => h) ?_ ?_
  · refine ⟨?_, ?_, ?_, trivial⟩
    · intro a w' hx hu hd K hK; have e4 : a.tmps.getD 4 undef = (.slice A1 0 c1) := hu 4 rfl; exact Flow.run1 rfl (Flow.r_move rfl e4) (hK _ _ (Below.refl _ _) rfl)
    · intro a w' hx hu hd K hK; have e22 := Flow.got (hd 0 rfl) 22 rfl; exact Flow.run1 rfl (lenL Tryd.underlying79 rfl e22) (hK _ _ (Below.refl _ _) rfl)
    · intro a w' hx hu hd K hK; have e23 := Flow.got (hd 1 rfl) 23 rfl; exact Flow.run1 rfl (yes (eql rfl e23 rfl) (beq_iff_eq.2 rfl)) (hK _ _ (Below.refl _ _) rfl)
  intro vs W5 hb5 hT
  have v0 := Flow.eqn (hT 0 (by decide))
  have v1 := Flow.eqn (hT 1 (by decide))
  have v2 := Flow.eqn (hT 2 (by decide))
  simp only [Flow.putsT, v0, v1, v2, Act.put, List.setIfInBounds_toArray, List.set_cons_zero, List.set_cons_succ]
  clear hT v0 v1 v2
  have HB5 := Aside0.mk (below_step HB4.out hb5)
  have Kg1_2_3_4_5 := Aside0.mk (blk_below Kg1_2_3_4.out hb5)
  clear hb5
  go_upto_region 3 with fail
  refine Flow.seqT_head (E := fun u v => Below u.heap.size u v) 1 [(some 25, []), (none, [0, 0]), (some 3, [1, 0, 1])] (fun iQ vQ wQ => match iQ with | 0 => vQ = (.agg #[.int .i64 0, .int .i64 0, .int .i64 0, .int .i64 0, .int .i64 0, .slice none 0 0, .bool false, .int .i64 0, .int .i64 0, .slice none 0 0]) | _ => True) rfl (by decide) (by kernel_rfl) (Below.refl _ _) (fun _ _ _ h k => h.trans (k.mono h.size)) (fun _ _ _ _ h _ => h) ?_ ?_
  · refine ⟨?_, trivial⟩
    · intro a w' hx hu hd K hK; exact Flow.run1 rfl (bldz56 rfl) (hK _ _ (Below.refl _ _) rfl)
  intro vs W6 hb6 hT
  have v0 := Flow.eqn (hT 0 (by decide))
  simp only [Flow.putsT, v0, Act.put, List.setIfInBounds_toArray, List.set_cons_zero, List.set_cons_succ, List.drop_succ_cons, List.drop_zero, List.take_succ_cons, List.take_zero]
  clear hT v0
  have HB6 := Aside0.mk (below_step HB5.out hb6)
  have Kg1_2_3_4_5_6 := Aside0.mk (blk_below Kg1_2_3_4_5.out hb6)
  clear hb6
  refine Cells.store_whole rfl rfl 56 _ _ rfl g1 [.int .i64 0, .int .i64 0, .int .i64 0, .int .i64 0, .int .i64 0, .slice none 0 0, .bool false, .int .i64 0, .int .i64 0, .slice none 0 0] #[.int .i64 0, .int .i64 0, .int .i64 0, .int .i64 0, .int .i64 0, .slice none 0 0, .bool false, .int .i64 0, .int .i64 0, .slice none 0 0] rfl rfl Kg1_2_3_4_5_6.out rfl size56 rfl ?_
  intro W7 hk7 hf7 hb7
  have HB7 := Aside0.mk (HB6.out.trans (hb7 _ Gg1.out))
  have Kg1_7 := Aside0.mk hk7
  clear hk7 hf7 hb7
  refine Flow.seqL (E := fun u v => Below u.heap.size u v) 2 1 [(some 25, []), (none, [0, 0]), (some 3, [1, 0, 1])] (fun iQ vQ wQ => match iQ with | 2 => vQ = (.bool false) | _ => True) rfl (by decide) (by kernel_rfl) (Below.refl _ _) (fun _ _ _ h k => h.trans (k.mono h.size)) (fun _ _ _ _ h _ => h) ?_ ?_
  · refine ⟨?_, trivial⟩
    · intro a w' hx hu hd K hK; exact Flow.run1 rfl (Flow.r_assign rfl rfl) (hK _ _ (Below.refl _ _) rfl)
  intro vs W8 hb8 hT
  have v2 := Flow.eqn (hT 2 (by decide) (by decide))
  simp only [Flow.putsT, v2, Act.put, List.setIfInBounds_toArray, List.set_cons_zero, List.set_cons_succ, List.drop_succ_cons, List.drop_zero, List.take_succ_cons, List.take_zero]
  clear hT v2
  have HB8 := Aside0.mk (below_step HB7.out hb8)
  have Kg1_7_8 := Aside0.mk (blk_below Kg1_7.out hb8)
  clear hb8
  go_wp2_with fail
  exact bodyPost_ret (results_ct Tryd.results29 _ _ g1 56 _ _ _ rfl Kg1_7_8.out Tryd.underlying56 rfl size56) rfl ⟨.slice none 0 0, .slice none 0 0, rfl, Kd.R_nil _ _ _ _ _, Kd.R_nil _ _ _ _ _, HB8.out⟩
set_option maxHeartbeats 4000000 in
set_option maxRecDepth 100000 in
theorem rparse_cons (s : ByteArray) (hs : s.size ≤ 1000000) (w0 : ByteArray) (l : List ByteArray) (hL : words s = w0 :: l) (hx : ByteArray → List Int × Bool) (hhex : ∀ t ∈ l, ∃ k, revetmentref37_Hex.f k t = some (hx t)) (r : A10 × Bool) (HR : Aside0 (parse hx s = r)) (w : World) : Calls Tryd.prog 29 #[.string s] w (ParsePost w r.1 r.2) := by
  have HL := Aside0.mk hL
  have HHX := Aside0.mk hhex
  clear hhex
  obtain ⟨kw, hkw⟩ := ref_words s hs
  rw [hL] at hkw
  have HKW := Aside0.mk hkw
  clear hkw hL
  obtain ⟨n, HN⟩ : ∃ n, Aside0 (l.length + 1 = n) := ⟨_, ⟨rfl⟩⟩
  have hn1 : 0 < n := by have := HN.out; omega
  have hn0 : ¬ (n : Int) = 0 := by omega
  go_enter Tryd.func29, Tryd.ntmps29
  go_upto_region 0 with fail
  refine wp_region_lit ?_
  refine ealloc rfl rfl zero56_is ?_
  intro g1 hg1 W1 hk1 hb1
  have Kg1 := Aside0.mk hk1
  have HB1 := Aside0.mk hb1
  clear hb1
  have Gg1 := Aside0.mk (show w.heap.size ≤ g1 by rw [hg1]; exact Nat.le_refl _)
  clear hg1 hk1
  simp only [Act.put, List.setIfInBounds_toArray, List.set_cons_zero, List.set_cons_succ]
  refine Flow.seqL (E := fun u v => Below u.heap.size u v) 1 1 [(some 2, []), (some 3, [])] (fun iQ vQ wQ => match iQ with | 1 => vQ = (.bool false) | _ => True) rfl (by decide) (by kernel_rfl) (Below.refl _ _) (fun _ _ _ h k => h.trans (k.mono h.size)) (fun _ _ _ _ h _ => h) ?_ ?_
  · refine ⟨?_, trivial⟩
    · intro a w' hx hu hd K hK; exact Flow.run1 rfl (Flow.r_assign rfl rfl) (hK _ _ (Below.refl _ _) rfl)
  intro vs W2 hb2 hT
  have v1 := Flow.eqn (hT 1 (by decide) (by decide))
  simp only [Flow.putsT, v1, Act.put, List.setIfInBounds_toArray, List.set_cons_zero, List.set_cons_succ, List.drop_succ_cons, List.drop_zero, List.take_succ_cons, List.take_zero]
  clear hT v1
  have HB2 := Aside0.mk (below_step HB1.out hb2)
  have Kg1_2 := Aside0.mk (blk_below Kg1.out hb2)
  clear hb2
  go_upto_region 1 with fail
  refine Flow.seqT_head (E := fun u v => Below u.heap.size u v) 2 [(some 20, []), (some 21, [0]), (some 4, [1, 1, 0, 1])] (fun iQ vQ wQ => match iQ with | 0 => vQ = (.string s) | 1 => Strs wQ vQ (w0 :: l) | _ => True) rfl (by decide) (by kernel_rfl) (Below.refl _ _) (fun _ _ _ h k => h.trans (k.mono h.size)) (fun iQ vQ w1Q w2Q hQ hEQ => match iQ, hQ with | 0, hQ => hQ | 1, hQ => hQ.below hEQ | _ + 2, _ => trivial) ?_ ?_
  · refine ⟨?_, ?_, trivial⟩
    · intro a w' hx hu hd K hK; have e0 : a.tmps.getD 0 undef = (.string s) := hu 0 rfl; exact Flow.run1 rfl (Flow.r_move rfl e0) (hK _ _ (Below.refl _ _) rfl)
    · intro a w' hx hu hd K hK; have e20 := Flow.got (hd 0 rfl) 20 rfl; refine Flow.want rfl ?_; refine Flow.val_call rfl Tryd.func49 (by kernel_rfl) rfl (by first | (simp only [List.map_toArray, List.map_cons, List.map_nil, Act.eval, e20]; done) | (simp only [List.map_toArray, List.map_cons, List.map_nil, Act.eval, e20]; rfl)) (revetmentref37_Words.calls kw s (w0 :: l) w' HKW.out) ?_; rintro e w2 ⟨v0, rfl, hR, hb2⟩; exact ⟨_, rfl, hK _ _ hb2 (strs_R hR)⟩
  intro vs W3 hb3 hT
  have v0 := Flow.eqn (hT 0 (by decide))
  obtain ⟨A1, c1, v1, -, -⟩ := id (hT 1 (by decide) : Strs _ _ (w0 :: l))
  rw [show (w0 :: l).length = n from HN.out] at v1
  have HQ1 : Aside0 (Strs W3 (.slice A1 n c1) (w0 :: l)) := ⟨v1 ▸ hT 1 (by decide)⟩
  simp only [Flow.putsT, v0, v1, Act.put, List.setIfInBounds_toArray, List.set_cons_zero, List.set_cons_succ, List.drop_succ_cons, List.drop_zero, List.take_succ_cons, List.take_zero]
  clear hT v0 v1
  have HB3 := Aside0.mk (below_step HB2.out hb3)
  have Kg1_2_3 := Aside0.mk (blk_below Kg1_2.out hb3)
  clear hb3
  refine Flow.seqL (E := fun u v => Below u.heap.size u v) 2 1 [(some 20, []), (some 21, [0]), (some 4, [1, 1, 0, 1])] (fun iQ vQ wQ => match iQ with | 2 => vQ = (.slice A1 n c1) | _ => True) rfl (by decide) (by kernel_rfl) (Below.refl _ _) (fun _ _ _ h k => h.trans (k.mono h.size)) (fun _ _ _ _ h _ => h) ?_ ?_
  · refine ⟨?_, trivial⟩
    · intro a w' hx hu hd K hK; have e21 : a.tmps.getD 21 undef = (.slice A1 n c1) := hu 21 rfl; exact Flow.run1 rfl (Flow.r_assign rfl e21) (hK _ _ (Below.refl _ _) rfl)
  intro vs W4 hb4 hT
  have v2 := Flow.eqn (hT 2 (by decide) (by decide))
  simp only [Flow.putsT, v2, Act.put, List.setIfInBounds_toArray, List.set_cons_zero, List.set_cons_succ, List.drop_succ_cons, List.drop_zero, List.take_succ_cons, List.take_zero]
  clear hT v2
  have HB4 := Aside0.mk (below_step HB3.out hb4)
  have HQ1_4 := Aside0.mk (Strs.below HQ1.out hb4)
  have Kg1_2_3_4 := Aside0.mk (blk_below Kg1_2_3.out hb4)
  clear hb4
  obtain ⟨ad, hA, -, hcap, hall⟩ := Strs.all (A := A1) (n := n) (c := c1) (l := w0 :: l) HQ1_4.out (by simp)
  subst hA
  have HCAP := Aside0.mk hcap
  have HALL := Aside0.mk hall
  clear hcap hall
  go_upto_region 2 with fail
  refine Flow.seqT (E := fun u v => Below u.heap.size u v) [(some 22, []), (some 23, [0]), (some 24, [1])] (fun iQ vQ wQ => match iQ with | 0 => vQ = (.slice (some ad) n c1) | 1 => vQ = (.int .i64 n) | 2 => vQ = (.bool false) | _ => True) rfl (by kernel_rfl) (Below.refl _ _) (fun _ _ _ h k => h.trans (k.mono h.size)) (fun _ _ _ _ h _ => h) ?_ ?_
  · refine ⟨?_, ?_, ?_, trivial⟩
    · intro a w' hx hu hd K hK; have e4 : a.tmps.getD 4 undef = (.slice (some ad) n c1) := hu 4 rfl; exact Flow.run1 rfl (Flow.r_move rfl e4) (hK _ _ (Below.refl _ _) rfl)
    · intro a w' hx hu hd K hK; have e22 := Flow.got (hd 0 rfl) 22 rfl; exact Flow.run1 rfl (lenL Tryd.underlying79 rfl e22) (hK _ _ (Below.refl _ _) rfl)
    · intro a w' hx hu hd K hK; have e23 := Flow.got (hd 1 rfl) 23 rfl; exact Flow.run1 rfl (no (eql rfl e23 rfl) (beq_eq_false_iff_ne.2 hn0)) (hK _ _ (Below.refl _ _) rfl)
  intro vs W6 hb6 hT
  have v0 := Flow.eqn (hT 0 (by decide))
  have v1 := Flow.eqn (hT 1 (by decide))
  have v2 := Flow.eqn (hT 2 (by decide))
  simp only [Flow.putsT, v0, v1, v2, Act.put, List.setIfInBounds_toArray, List.set_cons_zero, List.set_cons_succ]
  clear hT v0 v1 v2
  have HB6 := Aside0.mk hb6
  clear hb6
  go_upto_region 4 with fail
  refine Flow.seqT (E := fun u v => Below u.heap.size u v) [(some 5, [])] (fun iQ vQ wQ => match iQ with | 0 => vQ = (.int .i64 0) | _ => True) rfl (by kernel_rfl) (Below.refl _ _) (fun _ _ _ h k => h.trans (k.mono h.size)) (fun _ _ _ _ h _ => h) ?_ ?_
  · refine ⟨?_, trivial⟩
    · intro a w' hx hu hd K hK; exact Flow.run1 rfl (Flow.r_assign rfl rfl) (hK _ _ (Below.refl _ _) rfl)
  intro vs W7 hb7 hT
  have v0 := Flow.eqn (hT 0 (by decide))
  simp only [Flow.putsT, v0, Act.put, List.setIfInBounds_toArray, List.set_cons_zero, List.set_cons_succ]
  clear hT v0
  have HB7 := Aside0.mk (below_step HB6.out hb7)
  clear hb7
  go_wp2
  go_loopg [4, 5] 15 (fun g v4 v5 wr => ∃ i : Nat, i ≤ 15 ∧ Aside0 (g = 15 - i) ∧ v4 = .slice (some ad) n c1 ∧ v5 = .int .i64 i ∧ Aside0 (Below W4.heap.size W4 wr) ∧ Aside0 (∀ j, j < i → w0 ≠ wd j))
  case atStart => exact ⟨0, by decide, ⟨rfl⟩, rfl, rfl, HB7, ⟨fun j h => absurd h (Nat.not_lt_zero j)⟩⟩
  case round =>
    clear HB7
    obtain ⟨i, hi, HGI, rfl, rfl, HBR, HNO⟩ := hrel
    by_cases hlt : i < 15
    · have hlt2 : (i : Int) < 15 := by omega
      obtain ⟨mn, HM⟩ : ∃ q, Aside0 ((frm i).2.2.1.length = q) := ⟨_, ⟨rfl⟩⟩
      obtain ⟨bb, HBB⟩ : ∃ q, Aside0 ((frm i).2.2.2.isSome = q) := ⟨_, ⟨rfl⟩⟩
      obtain ⟨kd, HKD⟩ : ∃ q, Aside0 ((frm i).1 = q) := ⟨_, ⟨rfl⟩⟩
      obtain ⟨cm, HCM⟩ : ∃ q, Aside0 ((frm i).2.1 = q) := ⟨_, ⟨rfl⟩⟩
      have HC0 : Aside0 (W4.cell? (ad.add (0 * 1)) = some (.string w0)) := ⟨HALL.out 0 (by simp)⟩
      go_upto_region 5 with fail
      refine Flow.seqT (E := fun u v => Below u.heap.size u v) [(some 26, []), (some 27, [0])] (fun iQ vQ wQ => match iQ with | 0 => vQ = (.int .i64 i) | 1 => vQ = (.bool true) | _ => True) rfl (by kernel_rfl) (Below.refl _ _) (fun _ _ _ h k => h.trans (k.mono h.size)) (fun _ _ _ _ h _ => h) ?_ ?_
      · refine ⟨?_, ?_, trivial⟩
        · intro a w' hx hu hd K hK; have e5 : a.tmps.getD 5 undef = (.int .i64 i) := hu 5 rfl; exact Flow.run1 rfl (Flow.r_move rfl e5) (hK _ _ (Below.refl _ _) rfl)
        · intro a w' hx hu hd K hK; have e26 := Flow.got (hd 0 rfl) 26 rfl; exact Flow.run1 rfl (yes (lss rfl e26 rfl) (decide_eq_true hlt2)) (hK _ _ (Below.refl _ _) rfl)
      intro vs W8 hb8 hT
      have v0 := Flow.eqn (hT 0 (by decide))
      have v1 := Flow.eqn (hT 1 (by decide))
      simp only [Flow.putsT, v0, v1, Act.put, List.setIfInBounds_toArray, List.set_cons_zero, List.set_cons_succ]
      clear hT v0 v1
      have HB8 := Aside0.mk (below_step HBR.out hb8)
      clear hb8
      go_upto_region 7 with fail
      refine Flow.seqT (E := fun u v => Below u.heap.size u v) [(some 31, []), (some 32, [0]), (some 30, [1]), (some 33, [2]), (some 34, [2]), (some 35, [2]), (some 36, [2]), (some 37, [2]), (some 6, [3, 1, 0, 1, 2, 3]), (some 7, [4, 8, 0, 1, 2, 3, 4, 8]), (some 8, [5, 9, 0, 1, 2, 3, 4, 5, 8, 9]), (some 9, [6, 10, 0, 1, 2, 3, 4, 5, 6, 8, 9, 10]), (some 10, [7, 11, 0, 1, 2, 3, 4, 5, 6, 7, 8, 9, 10, 11])] (fun iQ vQ wQ => match iQ with | 0 => vQ = (.int .i64 i) | 1 => vQ = (.tuple #[.string (wd i), .int .i64 mn, .bool bb, .int .i64 kd, .int .i64 cm]) | 2 => vQ = (.tuple #[.string (wd i), .int .i64 mn, .bool bb, .int .i64 kd, .int .i64 cm]) | 3 => vQ = (.string (wd i)) | 4 => vQ = (.int .i64 mn) | 5 => vQ = (.bool bb) | 6 => vQ = (.int .i64 kd) | 7 => vQ = (.int .i64 cm) | 8 => vQ = (.string (wd i)) | 9 => vQ = (.int .i64 mn) | 10 => vQ = (.bool bb) | 11 => vQ = (.int .i64 kd) | 12 => vQ = (.int .i64 cm) | _ => True) rfl (by kernel_rfl) (Below.refl _ _) (fun _ _ _ h k => h.trans (k.mono h.size)) (fun _ _ _ _ h _ => h) ?_ ?_
      · refine ⟨?_, ?_, ?_, ?_, ?_, ?_, ?_, ?_, ?_, ?_, ?_, ?_, ?_, trivial⟩
        · intro a w' hx hu hd K hK; have e5 : a.tmps.getD 5 undef = (.int .i64 i) := hu 5 rfl; exact Flow.run1 rfl (Flow.r_move rfl e5) (hK _ _ (Below.refl _ _) rfl)
        · intro a w' hx hu hd K hK; have e31 := Flow.got (hd 0 rfl) 31 rfl; refine Flow.want rfl ?_; refine Flow.val_call rfl Tryd.func50 (by kernel_rfl) rfl (by first | (simp only [List.map_toArray, List.map_cons, List.map_nil, Act.eval, e31]; done) | (simp only [List.map_toArray, List.map_cons, List.map_nil, Act.eval, e31]; rfl)) (rword_c hlt HM.out HBB.out HKD.out HCM.out w') ?_; rintro e w2 ⟨rfl, hb2⟩; exact ⟨_, rfl, hK _ _ hb2 (by rfl)⟩
        · intro a w' hx hu hd K hK; have e32 := Flow.got (hd 1 rfl) 32 rfl; exact Flow.run1 rfl (Flow.r_move rfl e32) (hK _ _ (Below.refl _ _) rfl)
        · intro a w' hx hu hd K hK; have e30 := Flow.got (hd 2 rfl) 30 rfl; exact Flow.run1 rfl (extr rfl e30 rfl) (hK _ _ (Below.refl _ _) rfl)
        · intro a w' hx hu hd K hK; have e30 := Flow.got (hd 2 rfl) 30 rfl; exact Flow.run1 rfl (extr rfl e30 rfl) (hK _ _ (Below.refl _ _) rfl)
        · intro a w' hx hu hd K hK; have e30 := Flow.got (hd 2 rfl) 30 rfl; exact Flow.run1 rfl (extr rfl e30 rfl) (hK _ _ (Below.refl _ _) rfl)
        · intro a w' hx hu hd K hK; have e30 := Flow.got (hd 2 rfl) 30 rfl; exact Flow.run1 rfl (extr rfl e30 rfl) (hK _ _ (Below.refl _ _) rfl)
        · intro a w' hx hu hd K hK; have e30 := Flow.got (hd 2 rfl) 30 rfl; exact Flow.run1 rfl (extr rfl e30 rfl) (hK _ _ (Below.refl _ _) rfl)
        · intro a w' hx hu hd K hK; have e33 := Flow.got (hd 3 rfl) 33 rfl; exact Flow.run1 rfl (Flow.r_assign rfl e33) (hK _ _ (Below.refl _ _) rfl)
        · intro a w' hx hu hd K hK; have e34 := Flow.got (hd 4 rfl) 34 rfl; exact Flow.run1 rfl (Flow.r_assign rfl e34) (hK _ _ (Below.refl _ _) rfl)
        · intro a w' hx hu hd K hK; have e35 := Flow.got (hd 5 rfl) 35 rfl; exact Flow.run1 rfl (Flow.r_assign rfl e35) (hK _ _ (Below.refl _ _) rfl)
        · intro a w' hx hu hd K hK; have e36 := Flow.got (hd 6 rfl) 36 rfl; exact Flow.run1 rfl (Flow.r_assign rfl e36) (hK _ _ (Below.refl _ _) rfl)
        · intro a w' hx hu hd K hK; have e37 := Flow.got (hd 7 rfl) 37 rfl; exact Flow.run1 rfl (Flow.r_assign rfl e37) (hK _ _ (Below.refl _ _) rfl)
      intro vs W9 hb9 hT
      have v0 := Flow.eqn (hT 0 (by decide))
      have v1 := Flow.eqn (hT 1 (by decide))
      have v2 := Flow.eqn (hT 2 (by decide))
      have v3 := Flow.eqn (hT 3 (by decide))
      have v4 := Flow.eqn (hT 4 (by decide))
      have v5 := Flow.eqn (hT 5 (by decide))
      have v6 := Flow.eqn (hT 6 (by decide))
      have v7 := Flow.eqn (hT 7 (by decide))
      have v8 := Flow.eqn (hT 8 (by decide))
      have v9 := Flow.eqn (hT 9 (by decide))
      have v10 := Flow.eqn (hT 10 (by decide))
      have v11 := Flow.eqn (hT 11 (by decide))
      have v12 := Flow.eqn (hT 12 (by decide))
      simp only [Flow.putsT, v0, v1, v2, v3, v4, v5, v6, v7, v8, v9, v10, v11, v12, Act.put, List.setIfInBounds_toArray, List.set_cons_zero, List.set_cons_succ]
      clear hT v0 v1 v2 v3 v4 v5 v6 v7 v8 v9 v10 v11 v12
      have HB9 := Aside0.mk (below_step HB8.out hb9)
      clear hb9
      by_cases hw : w0 = wd i
      · have HNE := Aside0.mk (show ((wd i).toList != w0.toList) = false by rw [hw]; exact bne_self_eq_false _)
        go_upto_region 8 with fail
        refine Flow.seqT (E := fun u v => Below u.heap.size u v) [(some 38, []), (some 39, []), (some 40, [1]), (some 41, [2]), (some 42, [0, 3])] (fun iQ vQ wQ => match iQ with | 0 => vQ = (.string (wd i)) | 1 => vQ = (.slice (some ad) n c1) | 2 => vQ = (.pointer (some (ad.add (0 * 1)))) | 3 => vQ = (.string w0) | 4 => vQ = (.bool false) | _ => True) rfl (by kernel_rfl) (Below.refl _ _) (fun _ _ _ h k => h.trans (k.mono h.size)) (fun _ _ _ _ h _ => h) ?_ ?_
        · refine ⟨?_, ?_, ?_, ?_, ?_, trivial⟩
          · intro a w' hx hu hd K hK; have e6 : a.tmps.getD 6 undef = (.string (wd i)) := hu 6 rfl; exact Flow.run1 rfl (Flow.r_move rfl e6) (hK _ _ (Below.refl _ _) rfl)
          · intro a w' hx hu hd K hK; have e4 : a.tmps.getD 4 undef = (.slice (some ad) n c1) := hu 4 rfl; exact Flow.run1 rfl (Flow.r_move rfl e4) (hK _ _ (Below.refl _ _) rfl)
          · intro a w' hx hu hd K hK; have e39 := Flow.got (hd 1 rfl) 39 rfl; exact Flow.run1 rfl (ix (i := 0) Tryd.underlying79 size9 rfl e39 rfl hn1) (hK _ _ (Below.refl _ _) rfl)
          · intro a w' hx hu hd K hK; have e40 := Flow.got (hd 2 rfl) 40 rfl; exact Flow.run1 rfl (ld rfl e40 (pw_cell_below (below_step HB9.out hx) HC0.out) Tryd.underlying9 rfl) (hK _ _ (Below.refl _ _) rfl)
          · intro a w' hx hu hd K hK; have e38 := Flow.got (hd 0 rfl) 38 rfl; have e41 := Flow.got (hd 3 rfl) 41 rfl; exact Flow.run1 rfl (sneq rfl e38 e41 HNE.out) (hK _ _ (Below.refl _ _) rfl)
        intro vs W10 hb10 hT
        have v0 := Flow.eqn (hT 0 (by decide))
        have v1 := Flow.eqn (hT 1 (by decide))
        have v2 := Flow.eqn (hT 2 (by decide))
        have v3 := Flow.eqn (hT 3 (by decide))
        have v4 := Flow.eqn (hT 4 (by decide))
        simp only [Flow.putsT, v0, v1, v2, v3, v4, Act.put, List.setIfInBounds_toArray, List.set_cons_zero, List.set_cons_succ]
        clear hT v0 v1 v2 v3 v4
        have HB10 := Aside0.mk (below_step HB9.out hb10)
        clear hb10
        go_upto_region 9 with fail
        refine Flow.seqT_head (E := fun u v => Below u.heap.size u v) 4 [(some 43, []), (some 44, []), (some 45, [1]), (some 46, [0, 2]), (some 11, []), (none, [4, 3, 0, 1, 2, 3, 4])] (fun iQ vQ wQ => match iQ with | 0 => vQ = (.int .i64 kd) | 1 => vQ = (.int .i64 cm) | 2 => vQ = (.agg #[.int .i64 cm, .int .i64 0, .int .i64 0, .int .i64 0, .slice none 0 0, .bool false]) | 3 => vQ = (.agg #[.int .i64 kd, .int .i64 cm, .int .i64 0, .int .i64 0, .int .i64 0, .slice none 0 0, .bool false, .int .i64 0, .int .i64 0, .slice none 0 0]) | _ => True) rfl (by decide) (by kernel_rfl) (Below.refl _ _) (fun _ _ _ h k => h.trans (k.mono h.size)) (fun _ _ _ _ h _ => h) ?_ ?_
        · refine ⟨?_, ?_, ?_, ?_, trivial⟩
          · intro a w' hx hu hd K hK; have e9 : a.tmps.getD 9 undef = (.int .i64 kd) := hu 9 rfl; exact Flow.run1 rfl (Flow.r_move rfl e9) (hK _ _ (Below.refl _ _) rfl)
          · intro a w' hx hu hd K hK; have e10 : a.tmps.getD 10 undef = (.int .i64 cm) := hu 10 rfl; exact Flow.run1 rfl (Flow.r_move rfl e10) (hK _ _ (Below.refl _ _) rfl)
          · intro a w' hx hu hd K hK; have e44 := Flow.got (hd 1 rfl) 44 rfl; exact Flow.run1 rfl (bld54_0 rfl e44) (hK _ _ (Below.refl _ _) rfl)
          · intro a w' hx hu hd K hK; have e43 := Flow.got (hd 0 rfl) 43 rfl; have e45 := Flow.got (hd 2 rfl) 45 rfl; exact Flow.run1 rfl (bld56_0_1 rfl e43 e45) (hK _ _ (Below.refl _ _) rfl)
        intro vs W11 hb11 hT
        have v0 := Flow.eqn (hT 0 (by decide))
        have v1 := Flow.eqn (hT 1 (by decide))
        have v2 := Flow.eqn (hT 2 (by decide))
        have v3 := Flow.eqn (hT 3 (by decide))
        simp only [Flow.putsT, v0, v1, v2, v3, Act.put, List.setIfInBounds_toArray, List.set_cons_zero, List.set_cons_succ, List.drop_succ_cons, List.drop_zero, List.take_succ_cons, List.take_zero]
        clear hT v0 v1 v2 v3
        have HB11 := Aside0.mk (below_step HB10.out hb11)
        clear hb11
        refine ealloc rfl rfl zero56_is ?_
        intro g12 hg12 W12 hk12 hb12
        have Kg12 := Aside0.mk hk12
        have HB12 := Aside0.mk (below_step HB11.out hb12)
        clear hb12
        have Gg12 := Aside0.mk (show W4.heap.size ≤ g12 by rw [hg12]; exact HB11.out.size)
        clear hg12 hk12
        simp only [Act.put, List.setIfInBounds_toArray, List.set_cons_zero, List.set_cons_succ]
        refine Cells.store_whole rfl rfl 56 _ _ rfl g12 [.int .i64 kd, .int .i64 cm, .int .i64 0, .int .i64 0, .int .i64 0, .slice none 0 0, .bool false, .int .i64 0, .int .i64 0, .slice none 0 0] #[.int .i64 0, .int .i64 0, .int .i64 0, .int .i64 0, .int .i64 0, .slice none 0 0, .bool false, .int .i64 0, .int .i64 0, .slice none 0 0] rfl rfl Kg12.out rfl size56 rfl ?_
        intro W13 hk13 hf13 hb13
        have HB13 := Aside0.mk (HB12.out.trans (hb13 _ Gg12.out))
        have Kg12_13 := Aside0.mk hk13
        clear hk13 hf13 hb13
        have HS3 := Aside0.mk (frm_small ⟨i, hlt⟩)
        have HNB : Aside0 (nB i = mn + (if bb = true then 1 else 0)) := ⟨by unfold nB needB; rw [HM.out, HBB.out]⟩
        have hmn : mn ≤ 3 := HM.out ▸ HS3.out.1
        have hnb : nB i ≤ 4 := by have := HNB.out; split at this <;> omega
        obtain ⟨nd0, HD0⟩ : ∃ q, Aside0 (1 + mn = q) := ⟨_, ⟨rfl⟩⟩
        obtain ⟨nd, HD⟩ : ∃ q, Aside0 (nB i + 1 = q) := ⟨_, ⟨rfl⟩⟩
        obtain ⟨nd1, HD1⟩ : ∃ q, Aside0 (nd + 1 = q) := ⟨_, ⟨rfl⟩⟩
        have hda := HD0.out
        have hdb := HD.out
        have hdc := HD1.out
        have HA0 : Aside0 ((1 : Int) + mn = nd0 ∧ -9223372036854775808 ≤ (nd0 : Int) ∧ (nd0 : Int) ≤ 9223372036854775807) := ⟨by omega⟩
        have HA1 : Aside0 ((nd : Int) + 1 = nd1 ∧ -9223372036854775808 ≤ (nd1 : Int) ∧ (nd1 : Int) ≤ 9223372036854775807) := ⟨by omega⟩
        obtain ⟨fb, HFB⟩ : ∃ q, Aside0 (fuaB (frm i).1 (frm i).2.1 l (nB i) = q) := ⟨_, ⟨rfl⟩⟩
        obtain ⟨l2, HL2⟩ : ∃ q, Aside0 ((if fb = true then l.take (nB i) else l) = q) := ⟨_, ⟨rfl⟩⟩
        obtain ⟨n2, HN2⟩ : ∃ q, Aside0 (l2.length + 1 = q) := ⟨_, ⟨rfl⟩⟩
        have HPA := Aside0.mk (HR.out.symm.trans (parse_at (hx := hx) HL.out hlt hw HFB.out HL2.out))
        have HFE := Aside0.mk (HFB.out.symm.trans (fua_eq hlt l))
        go_upto_region 10 with fail
        refine Flow.seqT (E := fun u v => Below u.heap.size u v) [(some 47, []), (some 48, [0]), (some 12, [1, 0, 1])] (fun iQ vQ wQ => match iQ with | 0 => vQ = (.int .i64 mn) | 1 => vQ = (.int .i64 nd0) | 2 => vQ = (.int .i64 nd0) | _ => True) rfl (by kernel_rfl) (Below.refl _ _) (fun _ _ _ h k => h.trans (k.mono h.size)) (fun _ _ _ _ h _ => h) ?_ ?_
        · refine ⟨?_, ?_, ?_, trivial⟩
          · intro a w' hx hu hd K hK; have e7 : a.tmps.getD 7 undef = (.int .i64 mn) := hu 7 rfl; exact Flow.run1 rfl (Flow.r_move rfl e7) (hK _ _ (Below.refl _ _) rfl)
          · intro a w' hx hu hd K hK; have e47 := Flow.got (hd 0 rfl) 47 rfl; exact Flow.run1 rfl (addk rfl rfl e47 HA0.out.1 HA0.out.2.1 HA0.out.2.2) (hK _ _ (Below.refl _ _) rfl)
          · intro a w' hx hu hd K hK; have e48 := Flow.got (hd 1 rfl) 48 rfl; exact Flow.run1 rfl (Flow.r_assign rfl e48) (hK _ _ (Below.refl _ _) rfl)
        intro vs W14 hb14 hT
        have v0 := Flow.eqn (hT 0 (by decide))
        have v1 := Flow.eqn (hT 1 (by decide))
        have v2 := Flow.eqn (hT 2 (by decide))
        simp only [Flow.putsT, v0, v1, v2, Act.put, List.setIfInBounds_toArray, List.set_cons_zero, List.set_cons_succ]
        clear hT v0 v1 v2
        have HB14 := Aside0.mk (below_step HB13.out hb14)
        have Kg12_13_14 := Aside0.mk (blk_below Kg12_13.out hb14)
        clear hb14
        go_upto_region 11 with fail
        refine Flow.seqT (E := fun u v => Below u.heap.size u v) [(some 49, [])] (fun iQ vQ wQ => match iQ with | 0 => vQ = (.bool bb) | _ => True) rfl (by kernel_rfl) (Below.refl _ _) (fun _ _ _ h k => h.trans (k.mono h.size)) (fun _ _ _ _ h _ => h) ?_ ?_
        · refine ⟨?_, trivial⟩
          · intro a w' hx hu hd K hK; have e8 : a.tmps.getD 8 undef = (.bool bb) := hu 8 rfl; exact Flow.run1 rfl (Flow.r_move rfl e8) (hK _ _ (Below.refl _ _) rfl)
        intro vs W15 hb15 hT
        have v0 := Flow.eqn (hT 0 (by decide))
        simp only [Flow.putsT, v0, Act.put, List.setIfInBounds_toArray, List.set_cons_zero, List.set_cons_succ]
        clear hT v0
        have HB15 := Aside0.mk (below_step HB14.out hb15)
        have Kg12_13_14_15 := Aside0.mk (blk_below Kg12_13_14.out hb15)
        clear hb15
        go_upto_if 49 with fail
        go_cut [12] (fun v wx => v = .int .i64 nd ∧ Aside0 (Below W4.heap.size W4 wx) ∧ Aside0 (wx.heap[g12]? = some (.cells #[.int .i64 kd, .int .i64 cm, .int .i64 0, .int .i64 0, .int .i64 0, .slice none 0 0, .bool false, .int .i64 0, .int .i64 0, .slice none 0 0] 56 (0, 0))))
        case first =>
          cases bb with
          | true =>
            have HA2 : Aside0 ((nd0 : Int) + 1 = nd ∧ -9223372036854775808 ≤ (nd : Int) ∧ (nd : Int) ≤ 9223372036854775807) := ⟨by have := HNB.out; rw [if_pos rfl] at this; omega⟩
            go_upto_region 12 with fail
            refine Flow.seqT (E := fun u v => Below u.heap.size u v) [(some 50, []), (some 51, [0]), (some 12, [1, 0, 1])] (fun iQ vQ wQ => match iQ with | 0 => vQ = (.int .i64 nd0) | 1 => vQ = (.int .i64 nd) | 2 => vQ = (.int .i64 nd) | _ => True) rfl (by kernel_rfl) (Below.refl _ _) (fun _ _ _ h k => h.trans (k.mono h.size)) (fun _ _ _ _ h _ => h) ?_ ?_
            · refine ⟨?_, ?_, ?_, trivial⟩
              · intro a w' hx hu hd K hK; have e12 : a.tmps.getD 12 undef = (.int .i64 nd0) := hu 12 rfl; exact Flow.run1 rfl (Flow.r_move rfl e12) (hK _ _ (Below.refl _ _) rfl)
              · intro a w' hx hu hd K hK; have e50 := Flow.got (hd 0 rfl) 50 rfl; exact Flow.run1 rfl (addk rfl e50 rfl HA2.out.1 HA2.out.2.1 HA2.out.2.2) (hK _ _ (Below.refl _ _) rfl)
              · intro a w' hx hu hd K hK; have e51 := Flow.got (hd 1 rfl) 51 rfl; exact Flow.run1 rfl (Flow.r_assign rfl e51) (hK _ _ (Below.refl _ _) rfl)
            intro vs W16 hb16 hT
            have v0 := Flow.eqn (hT 0 (by decide))
            have v1 := Flow.eqn (hT 1 (by decide))
            have v2 := Flow.eqn (hT 2 (by decide))
            simp only [Flow.putsT, v0, v1, v2, Act.put, List.setIfInBounds_toArray, List.set_cons_zero, List.set_cons_succ]
            clear hT v0 v1 v2
            have HB16 := Aside0.mk (below_step HB15.out hb16)
            have Kg12_13_14_15_16 := Aside0.mk (blk_below Kg12_13_14_15.out hb16)
            clear hb16
            go_wp2_with fail
            go_meet
            exact ⟨rfl, HB16, Kg12_13_14_15_16⟩
          | false =>
            have HDD := Aside0.mk (show nd0 = nd by have := HNB.out; rw [if_neg (by decide)] at this; omega)
            go_wp2_with fail
            go_meet
            exact ⟨by rw [HDD.out], HB15, Kg12_13_14_15⟩
        case rest =>
          clear HB15 Kg12_13_14_15
          obtain ⟨rfl, HBc1, HKc1⟩ := hcut
          go_upto_region 13 with fail
          go_cut [67] (fun v wx => v = .bool fb ∧ Aside0 (Below W4.heap.size W4 wx) ∧ Aside0 (wx.heap[g12]? = some (.cells #[.int .i64 kd, .int .i64 cm, .int .i64 0, .int .i64 0, .int .i64 0, .slice none 0 0, .bool false, .int .i64 0, .int .i64 0, .slice none 0 0] 56 (0, 0))))
          case first =>
            by_cases hi0 : i = 0
            · have HI0 := Aside0.mk hi0
              have HI1 := Aside0.mk (show (i : Int) = 0 by omega)
              clear hi0
              by_cases hnn : n = nd1
              · have HNN := Aside0.mk hnn
                have HNI := Aside0.mk (show (n : Int) = nd1 by omega)
                have hll : l.length = nB i + 1 := by have := HN.out; omega
                have HLL := Aside0.mk hll
                have hndn : nd < n := by omega
                clear hnn
                obtain ⟨tx, HTX⟩ : ∃ q, Aside0 (l.getD (nB i) ByteArray.empty = q) := ⟨_, ⟨rfl⟩⟩
                have HCT : Aside0 (W4.cell? (ad.add (nd * 1)) = some (.string tx)) := ⟨by have h := HALL.out nd (by show nd < l.length + 1; have := HN.out; omega); rw [← hdb, show (w0 :: l).getD (nB i + 1) ByteArray.empty = l.getD (nB i) ByteArray.empty from rfl, HTX.out, hdb] at h; exact h⟩
                obtain ⟨be, HBE⟩ : ∃ q, Aside0 ((tx.toList == (⟨#[102, 117, 97]⟩ : ByteArray).toList) = q) := ⟨_, ⟨rfl⟩⟩
                refine Flow.seqT (E := fun u v => Below u.heap.size u v) [(some 52, []), (some 53, [0]), (some 54, [1]), (some 55, [2]), (some 56, [3, 2]), (some 57, [2]), (some 58, [5, 2]), (some 59, [4, 6, 2]), (some 60, [2, 7]), (some 61, [8, 2]), (some 62, [9]), (some 63, [9]), (some 64, [10, 11, 9]), (some 65, [12, 9]), (some 66, [13, 9]), (some 67, [9, 14])] (fun iQ vQ wQ => match iQ with | 0 => vQ = (.int .i64 i) | 1 => vQ = (.bool true) | 2 => vQ = (.bool true) | 3 => vQ = (.slice (some ad) n c1) | 4 => vQ = (.int .i64 n) | 5 => vQ = (.int .i64 nd) | 6 => vQ = (.int .i64 nd1) | 7 => vQ = (.bool true) | 8 => vQ = (.bool true) | 9 => vQ = (.bool true) | 10 => vQ = (.slice (some ad) n c1) | 11 => vQ = (.int .i64 nd) | 12 => vQ = (.pointer (some (ad.add (nd * 1)))) | 13 => vQ = (.string tx) | 14 => vQ = (.bool be) | 15 => vQ = (.bool be) | _ => True) rfl (by kernel_rfl) (Below.refl _ _) (fun _ _ _ h k => h.trans (k.mono h.size)) (fun _ _ _ _ h _ => h) ?_ ?_
                · refine ⟨?_, ?_, ?_, ?_, ?_, ?_, ?_, ?_, ?_, ?_, ?_, ?_, ?_, ?_, ?_, ?_, trivial⟩
                  · intro a w' hx hu hd K hK; have e5 : a.tmps.getD 5 undef = (.int .i64 i) := hu 5 rfl; exact Flow.run1 rfl (Flow.r_move rfl e5) (hK _ _ (Below.refl _ _) rfl)
                  · intro a w' hx hu hd K hK; have e52 := Flow.got (hd 0 rfl) 52 rfl; exact Flow.run1 rfl (yes (eql rfl e52 rfl) (beq_iff_eq.2 HI1.out)) (hK _ _ (Below.refl _ _) rfl)
                  · intro a w' hx hu hd K hK; have e53 := Flow.got (hd 1 rfl) 53 rfl; exact Flow.run1 rfl (Flow.r_move rfl e53) (hK _ _ (Below.refl _ _) rfl)
                  · intro a w' hx hu hd K hK; have e4 : a.tmps.getD 4 undef = (.slice (some ad) n c1) := hu 4 rfl; have e54 := Flow.got (hd 2 rfl) 54 rfl; exact Flow.run1 (Flow.want_of (k := 54) rfl e54) (Flow.r_move rfl e4) (hK _ _ (Below.refl _ _) rfl)
                  · intro a w' hx hu hd K hK; have e55 := Flow.got (hd 3 rfl) 55 rfl; have e54 := Flow.got (hd 2 rfl) 54 rfl; exact Flow.run1 (Flow.want_of (k := 54) rfl e54) (lenL Tryd.underlying79 rfl e55) (hK _ _ (Below.refl _ _) rfl)
                  · intro a w' hx hu hd K hK; have e12 : a.tmps.getD 12 undef = (.int .i64 nd) := hu 12 rfl; have e54 := Flow.got (hd 2 rfl) 54 rfl; exact Flow.run1 (Flow.want_of (k := 54) rfl e54) (Flow.r_move rfl e12) (hK _ _ (Below.refl _ _) rfl)
                  · intro a w' hx hu hd K hK; have e57 := Flow.got (hd 5 rfl) 57 rfl; have e54 := Flow.got (hd 2 rfl) 54 rfl; exact Flow.run1 (Flow.want_of (k := 54) rfl e54) (addk rfl e57 rfl HA1.out.1 HA1.out.2.1 HA1.out.2.2) (hK _ _ (Below.refl _ _) rfl)
                  · intro a w' hx hu hd K hK; have e56 := Flow.got (hd 4 rfl) 56 rfl; have e58 := Flow.got (hd 6 rfl) 58 rfl; have e54 := Flow.got (hd 2 rfl) 54 rfl; exact Flow.run1 (Flow.want_of (k := 54) rfl e54) (yes (eql rfl e56 e58) (beq_iff_eq.2 HNI.out)) (hK _ _ (Below.refl _ _) rfl)
                  · intro a w' hx hu hd K hK; have e54 := Flow.got (hd 2 rfl) 54 rfl; have e59 := Flow.got (hd 7 rfl) 59 rfl; exact Flow.run1 rfl (Flow.r_pick rfl e54 e59) (hK _ _ (Below.refl _ _) rfl)
                  · intro a w' hx hu hd K hK; have e60 := Flow.got (hd 8 rfl) 60 rfl; exact Flow.run1 rfl (Flow.r_move rfl e60) (hK _ _ (Below.refl _ _) rfl)
                  · intro a w' hx hu hd K hK; have e4 : a.tmps.getD 4 undef = (.slice (some ad) n c1) := hu 4 rfl; have e61 := Flow.got (hd 9 rfl) 61 rfl; exact Flow.run1 (Flow.want_of (k := 61) rfl e61) (Flow.r_move rfl e4) (hK _ _ (Below.refl _ _) rfl)
                  · intro a w' hx hu hd K hK; have e12 : a.tmps.getD 12 undef = (.int .i64 nd) := hu 12 rfl; have e61 := Flow.got (hd 9 rfl) 61 rfl; exact Flow.run1 (Flow.want_of (k := 61) rfl e61) (Flow.r_move rfl e12) (hK _ _ (Below.refl _ _) rfl)
                  · intro a w' hx hu hd K hK; have e62 := Flow.got (hd 10 rfl) 62 rfl; have e63 := Flow.got (hd 11 rfl) 63 rfl; have e61 := Flow.got (hd 9 rfl) 61 rfl; exact Flow.run1 (Flow.want_of (k := 61) rfl e61) (ix (i := nd) Tryd.underlying79 size9 rfl e62 e63 hndn) (hK _ _ (Below.refl _ _) rfl)
                  · intro a w' hx hu hd K hK; have e64 := Flow.got (hd 12 rfl) 64 rfl; have e61 := Flow.got (hd 9 rfl) 61 rfl; exact Flow.run1 (Flow.want_of (k := 61) rfl e61) (ld rfl e64 (pw_cell_below (below_step HBc1.out hx) HCT.out) Tryd.underlying9 rfl) (hK _ _ (Below.refl _ _) rfl)
                  · intro a w' hx hu hd K hK; have e65 := Flow.got (hd 13 rfl) 65 rfl; have e61 := Flow.got (hd 9 rfl) 61 rfl; exact Flow.run1 (Flow.want_of (k := 61) rfl e61) (seqb rfl e65 rfl HBE.out) (hK _ _ (Below.refl _ _) rfl)
                  · intro a w' hx hu hd K hK; have e61 := Flow.got (hd 9 rfl) 61 rfl; have e66 := Flow.got (hd 14 rfl) 66 rfl; exact Flow.run1 rfl (Flow.r_pick rfl e61 e66) (hK _ _ (Below.refl _ _) rfl)
                intro vs W17 hb17 hT
                have v0 := Flow.eqn (hT 0 (by decide))
                have v1 := Flow.eqn (hT 1 (by decide))
                have v2 := Flow.eqn (hT 2 (by decide))
                have v3 := Flow.eqn (hT 3 (by decide))
                have v4 := Flow.eqn (hT 4 (by decide))
                have v5 := Flow.eqn (hT 5 (by decide))
                have v6 := Flow.eqn (hT 6 (by decide))
                have v7 := Flow.eqn (hT 7 (by decide))
                have v8 := Flow.eqn (hT 8 (by decide))
                have v9 := Flow.eqn (hT 9 (by decide))
                have v10 := Flow.eqn (hT 10 (by decide))
                have v11 := Flow.eqn (hT 11 (by decide))
                have v12 := Flow.eqn (hT 12 (by decide))
                have v13 := Flow.eqn (hT 13 (by decide))
                have v14 := Flow.eqn (hT 14 (by decide))
                have v15 := Flow.eqn (hT 15 (by decide))
                simp only [Flow.putsT, v0, v1, v2, v3, v4, v5, v6, v7, v8, v9, v10, v11, v12, v13, v14, v15, Act.put, List.setIfInBounds_toArray, List.set_cons_zero, List.set_cons_succ]
                clear hT v0 v1 v2 v3 v4 v5 v6 v7 v8 v9 v10 v11 v12 v13 v14 v15
                have HB17 := Aside0.mk (below_step HBc1.out hb17)
                have HKc1_17 := Aside0.mk (blk_below HKc1.out hb17)
                clear hb17
                go_wp2_with fail
                go_meet
                exact ⟨congrArg Value.bool (show be = fb by rw [HFE.out]; rw [decide_eq_true HI0.out, decide_eq_true HLL.out, HTX.out, HBE.out]; rfl), HB17, HKc1_17⟩
              · have hn2 : ¬ (n : Int) = nd1 := by omega
                refine Flow.seqT (E := fun u v => Below u.heap.size u v) [(some 52, []), (some 53, [0]), (some 54, [1]), (some 55, [2]), (some 56, [3, 2]), (some 57, [2]), (some 58, [5, 2]), (some 59, [4, 6, 2]), (some 60, [2, 7]), (some 61, [8, 2]), (some 62, [9]), (some 63, [9]), (some 64, [10, 11, 9]), (some 65, [12, 9]), (some 66, [13, 9]), (some 67, [9, 14])] (fun iQ vQ wQ => match iQ with | 0 => vQ = (.int .i64 i) | 1 => vQ = (.bool true) | 2 => vQ = (.bool true) | 3 => vQ = (.slice (some ad) n c1) | 4 => vQ = (.int .i64 n) | 5 => vQ = (.int .i64 nd) | 6 => vQ = (.int .i64 nd1) | 7 => vQ = (.bool false) | 8 => vQ = (.bool false) | 9 => vQ = (.bool false) | 10 => vQ = undef | 11 => vQ = undef | 12 => vQ = undef | 13 => vQ = undef | 14 => vQ = undef | 15 => vQ = (.bool false) | _ => True) rfl (by kernel_rfl) (Below.refl _ _) (fun _ _ _ h k => h.trans (k.mono h.size)) (fun _ _ _ _ h _ => h) ?_ ?_
                · refine ⟨?_, ?_, ?_, ?_, ?_, ?_, ?_, ?_, ?_, ?_, ?_, ?_, ?_, ?_, ?_, ?_, trivial⟩
                  · intro a w' hx hu hd K hK; have e5 : a.tmps.getD 5 undef = (.int .i64 i) := hu 5 rfl; exact Flow.run1 rfl (Flow.r_move rfl e5) (hK _ _ (Below.refl _ _) rfl)
                  · intro a w' hx hu hd K hK; have e52 := Flow.got (hd 0 rfl) 52 rfl; exact Flow.run1 rfl (yes (eql rfl e52 rfl) (beq_iff_eq.2 HI1.out)) (hK _ _ (Below.refl _ _) rfl)
                  · intro a w' hx hu hd K hK; have e53 := Flow.got (hd 1 rfl) 53 rfl; exact Flow.run1 rfl (Flow.r_move rfl e53) (hK _ _ (Below.refl _ _) rfl)
                  · intro a w' hx hu hd K hK; have e4 : a.tmps.getD 4 undef = (.slice (some ad) n c1) := hu 4 rfl; have e54 := Flow.got (hd 2 rfl) 54 rfl; exact Flow.run1 (Flow.want_of (k := 54) rfl e54) (Flow.r_move rfl e4) (hK _ _ (Below.refl _ _) rfl)
                  · intro a w' hx hu hd K hK; have e55 := Flow.got (hd 3 rfl) 55 rfl; have e54 := Flow.got (hd 2 rfl) 54 rfl; exact Flow.run1 (Flow.want_of (k := 54) rfl e54) (lenL Tryd.underlying79 rfl e55) (hK _ _ (Below.refl _ _) rfl)
                  · intro a w' hx hu hd K hK; have e12 : a.tmps.getD 12 undef = (.int .i64 nd) := hu 12 rfl; have e54 := Flow.got (hd 2 rfl) 54 rfl; exact Flow.run1 (Flow.want_of (k := 54) rfl e54) (Flow.r_move rfl e12) (hK _ _ (Below.refl _ _) rfl)
                  · intro a w' hx hu hd K hK; have e57 := Flow.got (hd 5 rfl) 57 rfl; have e54 := Flow.got (hd 2 rfl) 54 rfl; exact Flow.run1 (Flow.want_of (k := 54) rfl e54) (addk rfl e57 rfl HA1.out.1 HA1.out.2.1 HA1.out.2.2) (hK _ _ (Below.refl _ _) rfl)
                  · intro a w' hx hu hd K hK; have e56 := Flow.got (hd 4 rfl) 56 rfl; have e58 := Flow.got (hd 6 rfl) 58 rfl; have e54 := Flow.got (hd 2 rfl) 54 rfl; exact Flow.run1 (Flow.want_of (k := 54) rfl e54) (no (eql rfl e56 e58) (beq_eq_false_iff_ne.2 hn2)) (hK _ _ (Below.refl _ _) rfl)
                  · intro a w' hx hu hd K hK; have e54 := Flow.got (hd 2 rfl) 54 rfl; have e59 := Flow.got (hd 7 rfl) 59 rfl; exact Flow.run1 rfl (Flow.r_pick rfl e54 e59) (hK _ _ (Below.refl _ _) rfl)
                  · intro a w' hx hu hd K hK; have e60 := Flow.got (hd 8 rfl) 60 rfl; exact Flow.run1 rfl (Flow.r_move rfl e60) (hK _ _ (Below.refl _ _) rfl)
                  · intro a w' hx hu hd K hK; have e61 := Flow.got (hd 9 rfl) 61 rfl; exact Flow.spare (Flow.spare_of (k := 61) rfl e61 rfl) (hK _ _ (Below.refl _ _) rfl)
                  · intro a w' hx hu hd K hK; have e61 := Flow.got (hd 9 rfl) 61 rfl; exact Flow.spare (Flow.spare_of (k := 61) rfl e61 rfl) (hK _ _ (Below.refl _ _) rfl)
                  · intro a w' hx hu hd K hK; have e61 := Flow.got (hd 9 rfl) 61 rfl; exact Flow.spare (Flow.spare_of (k := 61) rfl e61 rfl) (hK _ _ (Below.refl _ _) rfl)
                  · intro a w' hx hu hd K hK; have e61 := Flow.got (hd 9 rfl) 61 rfl; exact Flow.spare (Flow.spare_of (k := 61) rfl e61 rfl) (hK _ _ (Below.refl _ _) rfl)
                  · intro a w' hx hu hd K hK; have e61 := Flow.got (hd 9 rfl) 61 rfl; exact Flow.spare (Flow.spare_of (k := 61) rfl e61 rfl) (hK _ _ (Below.refl _ _) rfl)
                  · intro a w' hx hu hd K hK; have e61 := Flow.got (hd 9 rfl) 61 rfl; have e66 := Flow.got (hd 14 rfl) 66 rfl; exact Flow.run1 rfl (Flow.r_pick rfl e61 rfl) (hK _ _ (Below.refl _ _) rfl)
                intro vs W18 hb18 hT
                have v0 := Flow.eqn (hT 0 (by decide))
                have v1 := Flow.eqn (hT 1 (by decide))
                have v2 := Flow.eqn (hT 2 (by decide))
                have v3 := Flow.eqn (hT 3 (by decide))
                have v4 := Flow.eqn (hT 4 (by decide))
                have v5 := Flow.eqn (hT 5 (by decide))
                have v6 := Flow.eqn (hT 6 (by decide))
                have v7 := Flow.eqn (hT 7 (by decide))
                have v8 := Flow.eqn (hT 8 (by decide))
                have v9 := Flow.eqn (hT 9 (by decide))
                have v10 := Flow.eqn (hT 10 (by decide))
                have v11 := Flow.eqn (hT 11 (by decide))
                have v12 := Flow.eqn (hT 12 (by decide))
                have v13 := Flow.eqn (hT 13 (by decide))
                have v14 := Flow.eqn (hT 14 (by decide))
                have v15 := Flow.eqn (hT 15 (by decide))
                simp only [Flow.putsT, v0, v1, v2, v3, v4, v5, v6, v7, v8, v9, v10, v11, v12, v13, v14, v15, Act.put, List.setIfInBounds_toArray, List.set_cons_zero, List.set_cons_succ]
                clear hT v0 v1 v2 v3 v4 v5 v6 v7 v8 v9 v10 v11 v12 v13 v14 v15
                have HB18 := Aside0.mk (below_step HBc1.out hb18)
                have HKc1_18 := Aside0.mk (blk_below HKc1.out hb18)
                clear hb18
                go_wp2_with fail
                go_meet
                exact ⟨congrArg Value.bool (show false = fb by rw [HFE.out]; rw [decide_eq_true HI0.out, decide_eq_false (by have := HN.out; omega)]; rfl), HB18, HKc1_18⟩
            · have hi1 : ¬ (i : Int) = 0 := by omega
              refine Flow.seqT (E := fun u v => Below u.heap.size u v) [(some 52, []), (some 53, [0]), (some 54, [1]), (some 55, [2]), (some 56, [3, 2]), (some 57, [2]), (some 58, [5, 2]), (some 59, [4, 6, 2]), (some 60, [2, 7]), (some 61, [8, 2]), (some 62, [9]), (some 63, [9]), (some 64, [10, 11, 9]), (some 65, [12, 9]), (some 66, [13, 9]), (some 67, [9, 14])] (fun iQ vQ wQ => match iQ with | 0 => vQ = (.int .i64 i) | 1 => vQ = (.bool false) | 2 => vQ = (.bool false) | 3 => vQ = undef | 4 => vQ = undef | 5 => vQ = undef | 6 => vQ = undef | 7 => vQ = undef | 8 => vQ = (.bool false) | 9 => vQ = (.bool false) | 10 => vQ = undef | 11 => vQ = undef | 12 => vQ = undef | 13 => vQ = undef | 14 => vQ = undef | 15 => vQ = (.bool false) | _ => True) rfl (by kernel_rfl) (Below.refl _ _) (fun _ _ _ h k => h.trans (k.mono h.size)) (fun _ _ _ _ h _ => h) ?_ ?_
              · refine ⟨?_, ?_, ?_, ?_, ?_, ?_, ?_, ?_, ?_, ?_, ?_, ?_, ?_, ?_, ?_, ?_, trivial⟩
                · intro a w' hx hu hd K hK; have e5 : a.tmps.getD 5 undef = (.int .i64 i) := hu 5 rfl; exact Flow.run1 rfl (Flow.r_move rfl e5) (hK _ _ (Below.refl _ _) rfl)
                · intro a w' hx hu hd K hK; have e52 := Flow.got (hd 0 rfl) 52 rfl; exact Flow.run1 rfl (no (eql rfl e52 rfl) (beq_eq_false_iff_ne.2 hi1)) (hK _ _ (Below.refl _ _) rfl)
                · intro a w' hx hu hd K hK; have e53 := Flow.got (hd 1 rfl) 53 rfl; exact Flow.run1 rfl (Flow.r_move rfl e53) (hK _ _ (Below.refl _ _) rfl)
                · intro a w' hx hu hd K hK; have e54 := Flow.got (hd 2 rfl) 54 rfl; exact Flow.spare (Flow.spare_of (k := 54) rfl e54 rfl) (hK _ _ (Below.refl _ _) rfl)
                · intro a w' hx hu hd K hK; have e54 := Flow.got (hd 2 rfl) 54 rfl; exact Flow.spare (Flow.spare_of (k := 54) rfl e54 rfl) (hK _ _ (Below.refl _ _) rfl)
                · intro a w' hx hu hd K hK; have e54 := Flow.got (hd 2 rfl) 54 rfl; exact Flow.spare (Flow.spare_of (k := 54) rfl e54 rfl) (hK _ _ (Below.refl _ _) rfl)
                · intro a w' hx hu hd K hK; have e54 := Flow.got (hd 2 rfl) 54 rfl; exact Flow.spare (Flow.spare_of (k := 54) rfl e54 rfl) (hK _ _ (Below.refl _ _) rfl)
                · intro a w' hx hu hd K hK; have e54 := Flow.got (hd 2 rfl) 54 rfl; exact Flow.spare (Flow.spare_of (k := 54) rfl e54 rfl) (hK _ _ (Below.refl _ _) rfl)
                · intro a w' hx hu hd K hK; have e54 := Flow.got (hd 2 rfl) 54 rfl; have e59 := Flow.got (hd 7 rfl) 59 rfl; exact Flow.run1 rfl (Flow.r_pick rfl e54 rfl) (hK _ _ (Below.refl _ _) rfl)
                · intro a w' hx hu hd K hK; have e60 := Flow.got (hd 8 rfl) 60 rfl; exact Flow.run1 rfl (Flow.r_move rfl e60) (hK _ _ (Below.refl _ _) rfl)
                · intro a w' hx hu hd K hK; have e61 := Flow.got (hd 9 rfl) 61 rfl; exact Flow.spare (Flow.spare_of (k := 61) rfl e61 rfl) (hK _ _ (Below.refl _ _) rfl)
                · intro a w' hx hu hd K hK; have e61 := Flow.got (hd 9 rfl) 61 rfl; exact Flow.spare (Flow.spare_of (k := 61) rfl e61 rfl) (hK _ _ (Below.refl _ _) rfl)
                · intro a w' hx hu hd K hK; have e61 := Flow.got (hd 9 rfl) 61 rfl; exact Flow.spare (Flow.spare_of (k := 61) rfl e61 rfl) (hK _ _ (Below.refl _ _) rfl)
                · intro a w' hx hu hd K hK; have e61 := Flow.got (hd 9 rfl) 61 rfl; exact Flow.spare (Flow.spare_of (k := 61) rfl e61 rfl) (hK _ _ (Below.refl _ _) rfl)
                · intro a w' hx hu hd K hK; have e61 := Flow.got (hd 9 rfl) 61 rfl; exact Flow.spare (Flow.spare_of (k := 61) rfl e61 rfl) (hK _ _ (Below.refl _ _) rfl)
                · intro a w' hx hu hd K hK; have e61 := Flow.got (hd 9 rfl) 61 rfl; have e66 := Flow.got (hd 14 rfl) 66 rfl; exact Flow.run1 rfl (Flow.r_pick rfl e61 rfl) (hK _ _ (Below.refl _ _) rfl)
              intro vs W19 hb19 hT
              have v0 := Flow.eqn (hT 0 (by decide))
              have v1 := Flow.eqn (hT 1 (by decide))
              have v2 := Flow.eqn (hT 2 (by decide))
              have v3 := Flow.eqn (hT 3 (by decide))
              have v4 := Flow.eqn (hT 4 (by decide))
              have v5 := Flow.eqn (hT 5 (by decide))
              have v6 := Flow.eqn (hT 6 (by decide))
              have v7 := Flow.eqn (hT 7 (by decide))
              have v8 := Flow.eqn (hT 8 (by decide))
              have v9 := Flow.eqn (hT 9 (by decide))
              have v10 := Flow.eqn (hT 10 (by decide))
              have v11 := Flow.eqn (hT 11 (by decide))
              have v12 := Flow.eqn (hT 12 (by decide))
              have v13 := Flow.eqn (hT 13 (by decide))
              have v14 := Flow.eqn (hT 14 (by decide))
              have v15 := Flow.eqn (hT 15 (by decide))
              simp only [Flow.putsT, v0, v1, v2, v3, v4, v5, v6, v7, v8, v9, v10, v11, v12, v13, v14, v15, Act.put, List.setIfInBounds_toArray, List.set_cons_zero, List.set_cons_succ]
              clear hT v0 v1 v2 v3 v4 v5 v6 v7 v8 v9 v10 v11 v12 v13 v14 v15
              have HB19 := Aside0.mk (below_step HBc1.out hb19)
              have HKc1_19 := Aside0.mk (blk_below HKc1.out hb19)
              clear hb19
              go_wp2_with fail
              go_meet
              exact ⟨congrArg Value.bool (show false = fb by rw [HFE.out]; rw [decide_eq_false hi0]; rfl), HB19, HKc1_19⟩
          case rest =>
            clear HBc1 HKc1
            obtain ⟨rfl, HBc2, HKc2⟩ := hcut
            go_upto_if 67 with fail
            go_cut [4] (fun v wx => v = .slice (some ad) n2 c1 ∧ Aside0 (Below W4.heap.size W4 wx) ∧ Aside0 (wx.heap[g12]? = some (.cells #[.int .i64 kd, .int .i64 cm, .int .i64 0, .int .i64 0, .int .i64 0, .slice none 0 0, .bool fb, .int .i64 0, .int .i64 0, .slice none 0 0] 56 (0, 0))))
            case first =>
              cases fb with
              | true =>
                have hll : l.length = nB i + 1 := by have h := HFE.out.symm; simp only [Bool.and_eq_true, decide_eq_true_eq] at h; exact h.1.2
                have HLL := Aside0.mk hll
                have HN22 := Aside0.mk (show n2 = nd by have h := HN2.out; rw [← HL2.out, if_pos rfl, List.length_take] at h; omega)
                have hndc : nd ≤ c1 := by have := HCAP.out; have := HN.out; omega
                clear hll
                go_upto_region 14 with fail
                refine Flow.seqT_head (E := fun u v => Below u.heap.size u v) 2 [(some 68, []), (some 69, [0]), (none, [1])] (fun iQ vQ wQ => match iQ with | 0 => vQ = (.pointer (some ⟨g12, 1, none⟩)) | 1 => vQ = (.pointer (some ⟨g12, 6, none⟩)) | _ => True) rfl (by decide) (by kernel_rfl) (Below.refl _ _) (fun _ _ _ h k => h.trans (k.mono h.size)) (fun _ _ _ _ h _ => h) ?_ ?_
                · refine ⟨?_, ?_, trivial⟩
                  · intro a w' hx hu hd K hK; have e11 : a.tmps.getD 11 undef = (.pointer (some ⟨g12, 0, none⟩)) := hu 11 rfl; exact Flow.run1 rfl (fa rfl e11 (fa56_1 _ _ _)) (hK _ _ (Below.refl _ _) rfl)
                  · intro a w' hx hu hd K hK; have e68 := Flow.got (hd 0 rfl) 68 rfl; exact Flow.run1 rfl (fa rfl e68 (fa54_5 _ _ _)) (hK _ _ (Below.refl _ _) rfl)
                intro vs W20 hb20 hT
                have v0 := Flow.eqn (hT 0 (by decide))
                have v1 := Flow.eqn (hT 1 (by decide))
                simp only [Flow.putsT, v0, v1, Act.put, List.setIfInBounds_toArray, List.set_cons_zero, List.set_cons_succ, List.drop_succ_cons, List.drop_zero, List.take_succ_cons, List.take_zero]
                clear hT v0 v1
                have HB20 := Aside0.mk (below_step HBc2.out hb20)
                have HKc2_20 := Aside0.mk (blk_below HKc2.out hb20)
                clear hb20
                refine put_event rfl rfl 4 _ _ rfl g12 (6) (.bool true) #[.int .i64 kd, .int .i64 cm, .int .i64 0, .int .i64 0, .int .i64 0, .slice none 0 0, .bool false, .int .i64 0, .int .i64 0, .slice none 0 0] #[.int .i64 kd, .int .i64 cm, .int .i64 0, .int .i64 0, .int .i64 0, .slice none 0 0, .bool true, .int .i64 0, .int .i64 0, .slice none 0 0] rfl rfl rfl size4 HKc2_20.out (show 6 < 10 by decide) rfl ?_
                intro W21 hk21 hf21 hb21
                have HB21 := Aside0.mk (HB20.out.trans (hb21 _ Gg12.out))
                have Kg12_21 := Aside0.mk hk21
                clear hk21 hf21 hb21
                go_upto_region 15 with fail
                refine Flow.seqT (E := fun u v => Below u.heap.size u v) [(some 70, []), (some 71, []), (some 72, [0, 1]), (some 4, [2, 0, 1, 2])] (fun iQ vQ wQ => match iQ with | 0 => vQ = (.slice (some ad) n c1) | 1 => vQ = (.int .i64 nd) | 2 => vQ = (.slice (some ad) nd c1) | 3 => vQ = (.slice (some ad) nd c1) | _ => True) rfl (by kernel_rfl) (Below.refl _ _) (fun _ _ _ h k => h.trans (k.mono h.size)) (fun _ _ _ _ h _ => h) ?_ ?_
                · refine ⟨?_, ?_, ?_, ?_, trivial⟩
                  · intro a w' hx hu hd K hK; have e4 : a.tmps.getD 4 undef = (.slice (some ad) n c1) := hu 4 rfl; exact Flow.run1 rfl (Flow.r_move rfl e4) (hK _ _ (Below.refl _ _) rfl)
                  · intro a w' hx hu hd K hK; have e12 : a.tmps.getD 12 undef = (.int .i64 nd) := hu 12 rfl; exact Flow.run1 rfl (Flow.r_move rfl e12) (hK _ _ (Below.refl _ _) rfl)
                  · intro a w' hx hu hd K hK; have e70 := Flow.got (hd 0 rfl) 70 rfl; have e71 := Flow.got (hd 1 rfl) 71 rfl; exact Flow.run1 rfl (headk Tryd.underlying79 (head_run w' _ n c1 nd hndc) rfl e70 e71) (hK _ _ (Below.refl _ _) rfl)
                  · intro a w' hx hu hd K hK; have e72 := Flow.got (hd 2 rfl) 72 rfl; exact Flow.run1 rfl (Flow.r_assign rfl e72) (hK _ _ (Below.refl _ _) rfl)
                intro vs W22 hb22 hT
                have v0 := Flow.eqn (hT 0 (by decide))
                have v1 := Flow.eqn (hT 1 (by decide))
                have v2 := Flow.eqn (hT 2 (by decide))
                have v3 := Flow.eqn (hT 3 (by decide))
                simp only [Flow.putsT, v0, v1, v2, v3, Act.put, List.setIfInBounds_toArray, List.set_cons_zero, List.set_cons_succ]
                clear hT v0 v1 v2 v3
                have HB22 := Aside0.mk (below_step HB21.out hb22)
                have Kg12_21_22 := Aside0.mk (blk_below Kg12_21.out hb22)
                clear hb22
                go_wp2_with fail
                go_meet
                exact ⟨by rw [HN22.out], HB22, Kg12_21_22⟩
              | false =>
                have HN22 := Aside0.mk (show n = n2 by have h := HN2.out; rw [← HL2.out, if_neg (by decide)] at h; exact HN.out.symm.trans h)
                go_wp2_with fail
                go_meet
                exact ⟨by rw [HN22.out], HBc2, HKc2⟩
            case rest =>
              clear HBc2 HKc2
              obtain ⟨rfl, HBc3, HKc3⟩ := hcut
              by_cases hq : n2 = nd
              · have HQQ := Aside0.mk hq
                have HQ2 := Aside0.mk (show (n2 : Int) = nd by omega)
                clear hq
                go_upto_region 16 with fail
                refine Flow.seqT (E := fun u v => Below u.heap.size u v) [(some 73, []), (some 74, [0]), (some 75, []), (some 76, [1, 2])] (fun iQ vQ wQ => match iQ with | 0 => vQ = (.slice (some ad) n2 c1) | 1 => vQ = (.int .i64 n2) | 2 => vQ = (.int .i64 nd) | 3 => vQ = (.bool false) | _ => True) rfl (by kernel_rfl) (Below.refl _ _) (fun _ _ _ h k => h.trans (k.mono h.size)) (fun _ _ _ _ h _ => h) ?_ ?_
                · refine ⟨?_, ?_, ?_, ?_, trivial⟩
                  · intro a w' hx hu hd K hK; have e4 : a.tmps.getD 4 undef = (.slice (some ad) n2 c1) := hu 4 rfl; exact Flow.run1 rfl (Flow.r_move rfl e4) (hK _ _ (Below.refl _ _) rfl)
                  · intro a w' hx hu hd K hK; have e73 := Flow.got (hd 0 rfl) 73 rfl; exact Flow.run1 rfl (lenL Tryd.underlying79 rfl e73) (hK _ _ (Below.refl _ _) rfl)
                  · intro a w' hx hu hd K hK; have e12 : a.tmps.getD 12 undef = (.int .i64 nd) := hu 12 rfl; exact Flow.run1 rfl (Flow.r_move rfl e12) (hK _ _ (Below.refl _ _) rfl)
                  · intro a w' hx hu hd K hK; have e74 := Flow.got (hd 1 rfl) 74 rfl; have e75 := Flow.got (hd 2 rfl) 75 rfl; exact Flow.run1 rfl (no (neq rfl e74 e75) (bne_eq_false_iff_eq.2 HQ2.out)) (hK _ _ (Below.refl _ _) rfl)
                intro vs W23 hb23 hT
                have v0 := Flow.eqn (hT 0 (by decide))
                have v1 := Flow.eqn (hT 1 (by decide))
                have v2 := Flow.eqn (hT 2 (by decide))
                have v3 := Flow.eqn (hT 3 (by decide))
                simp only [Flow.putsT, v0, v1, v2, v3, Act.put, List.setIfInBounds_toArray, List.set_cons_zero, List.set_cons_succ]
                clear hT v0 v1 v2 v3
                have HB23 := Aside0.mk (below_step HBc3.out hb23)
                have HKc3_23 := Aside0.mk (blk_below HKc3.out hb23)
                clear hb23
                have HLB := Aside0.mk (show l2.length = nB i by have := HN2.out; have := HQQ.out; omega)
                have HPB := Aside0.mk (HPA.out.trans (if_pos HLB.out))
                have Kg1_2_3_4_24 := Aside0.mk (blk_below Kg1_2_3_4.out HB23.out)
                have HALL2 : Aside0 (∀ j, j < l2.length → W23.cell? (ad.add ((j + 1) * 1)) = some (.string (l2.getD j ByteArray.empty))) := ⟨fun j hj => by have h := take_get HL2.out hj; rw [← h.2]; exact pw_cell_below HB23.out (HALL.out (j + 1) (Nat.succ_lt_succ h.1))⟩
                go_upto_region 18 with fail
                refine wp_region_lit ?_
                refine ealloc rfl rfl zero104_is ?_
                intro g25 hg25 W25 hk25 hb25
                have Kg25 := Aside0.mk hk25
                have HB25 := Aside0.mk hb25
                clear hb25
                have Gg25 := Aside0.mk (show W23.heap.size ≤ g25 by rw [hg25]; exact Nat.le_refl _)
                clear hg25 hk25
                simp only [Act.put, List.setIfInBounds_toArray, List.set_cons_zero, List.set_cons_succ]
                go_upto_region 19 with fail
                refine Flow.seqT (E := fun u v => Below u.heap.size u v) [(some 14, [])] (fun iQ vQ wQ => match iQ with | 0 => vQ = (.int .i64 0) | _ => True) rfl (by kernel_rfl) (Below.refl _ _) (fun _ _ _ h k => h.trans (k.mono h.size)) (fun _ _ _ _ h _ => h) ?_ ?_
                · refine ⟨?_, trivial⟩
                  · intro a w' hx hu hd K hK; exact Flow.run1 rfl (Flow.r_assign rfl rfl) (hK _ _ (Below.refl _ _) rfl)
                intro vs W26 hb26 hT
                have v0 := Flow.eqn (hT 0 (by decide))
                simp only [Flow.putsT, v0, Act.put, List.setIfInBounds_toArray, List.set_cons_zero, List.set_cons_succ]
                clear hT v0
                have HB26 := Aside0.mk (below_step HB25.out hb26)
                have Kg25_26 := Aside0.mk (blk_below Kg25.out hb26)
                clear hb26
                go_wp2
                go_loopg [14] mn (fun g v14 wr => ∃ k : Nat, k ≤ mn ∧ Aside0 (g = mn - k) ∧ v14 = .int .i64 k ∧ Aside0 (Below W23.heap.size W23 wr) ∧ Aside0 (wr.heap[g25]? = some (.cells #[.int .i64 (nn k l2 0), .int .i64 (nn k l2 1), .int .i64 (nn k l2 2)] 104 (0, 0))) ∧ Aside0 (∀ j, j < k → (numb (l2.getD j ByteArray.empty)).2 = true))
                case atStart => exact ⟨0, Nat.zero_le _, ⟨rfl⟩, rfl, HB26, ⟨Kg25_26.out⟩, ⟨fun j h => absurd h (Nat.not_lt_zero j)⟩⟩
                case round =>
                  clear HB26 Kg25_26
                  obtain ⟨k, hk, HGK, rfl, HBR2, HKA, HOK⟩ := hrel
                  by_cases hkm : k < mn
                  · have hkm2 : (k : Int) < mn := by omega
                    obtain ⟨k1, HK1⟩ : ∃ q, Aside0 (k + 1 = q) := ⟨_, ⟨rfl⟩⟩
                    have hk1 := HK1.out
                    have hnbm : mn ≤ nB i := by have := HNB.out; split at this <;> omega
                    have hk1n : k1 < n2 := by have := HQQ.out; omega
                    have hkl : k < l2.length := by have := HLB.out; omega
                    have HA4 : Aside0 ((1 : Int) + k = k1 ∧ -9223372036854775808 ≤ (k1 : Int) ∧ (k1 : Int) ≤ 9223372036854775807) := ⟨by omega⟩
                    obtain ⟨tx, HTX⟩ : ∃ q, Aside0 (l2.getD k ByteArray.empty = q) := ⟨_, ⟨rfl⟩⟩
                    obtain ⟨nv, HNV⟩ : ∃ q, Aside0 ((numb tx).1 = q) := ⟨_, ⟨rfl⟩⟩
                    obtain ⟨nb, HNB2⟩ : ∃ q, Aside0 ((numb tx).2 = q) := ⟨_, ⟨rfl⟩⟩
                    have HCT : Aside0 (W23.cell? (ad.add (k1 * 1)) = some (.string tx)) := ⟨by have h := HALL2.out k hkl; rw [hk1, HTX.out] at h; exact h⟩
                    go_upto_region 20 with fail
                    refine Flow.seqT (E := fun u v => Below u.heap.size u v) [(some 78, []), (some 79, []), (some 80, [0, 1])] (fun iQ vQ wQ => match iQ with | 0 => vQ = (.int .i64 k) | 1 => vQ = (.int .i64 mn) | 2 => vQ = (.bool true) | _ => True) rfl (by kernel_rfl) (Below.refl _ _) (fun _ _ _ h k => h.trans (k.mono h.size)) (fun _ _ _ _ h _ => h) ?_ ?_
                    · refine ⟨?_, ?_, ?_, trivial⟩
                      · intro a w' hx hu hd K hK; have e14 : a.tmps.getD 14 undef = (.int .i64 k) := hu 14 rfl; exact Flow.run1 rfl (Flow.r_move rfl e14) (hK _ _ (Below.refl _ _) rfl)
                      · intro a w' hx hu hd K hK; have e7 : a.tmps.getD 7 undef = (.int .i64 mn) := hu 7 rfl; exact Flow.run1 rfl (Flow.r_move rfl e7) (hK _ _ (Below.refl _ _) rfl)
                      · intro a w' hx hu hd K hK; have e78 := Flow.got (hd 0 rfl) 78 rfl; have e79 := Flow.got (hd 1 rfl) 79 rfl; exact Flow.run1 rfl (yes (lss rfl e78 e79) (decide_eq_true hkm2)) (hK _ _ (Below.refl _ _) rfl)
                    intro vs W27 hb27 hT
                    have v0 := Flow.eqn (hT 0 (by decide))
                    have v1 := Flow.eqn (hT 1 (by decide))
                    have v2 := Flow.eqn (hT 2 (by decide))
                    simp only [Flow.putsT, v0, v1, v2, Act.put, List.setIfInBounds_toArray, List.set_cons_zero, List.set_cons_succ]
                    clear hT v0 v1 v2
                    have HB27 := Aside0.mk (below_step HBR2.out hb27)
                    have HKA_27 := Aside0.mk (blk_below HKA.out hb27)
                    clear hb27
                    go_upto_region 22 with fail
                    refine Flow.seqT (E := fun u v => Below u.heap.size u v) [(some 84, []), (some 85, []), (some 86, [1]), (some 87, [0, 2]), (some 88, [3]), (some 89, [4]), (some 83, [5]), (some 90, [6]), (some 91, [6]), (some 15, [7, 5, 0, 1, 2, 3, 4, 5, 6, 7]), (some 16, [8, 9, 0, 1, 2, 3, 4, 5, 6, 7, 8, 9])] (fun iQ vQ wQ => match iQ with | 0 => vQ = (.slice (some ad) n2 c1) | 1 => vQ = (.int .i64 k) | 2 => vQ = (.int .i64 k1) | 3 => vQ = (.pointer (some (ad.add (k1 * 1)))) | 4 => vQ = (.string tx) | 5 => vQ = (.tuple #[.int .i64 nv, .bool nb]) | 6 => vQ = (.tuple #[.int .i64 nv, .bool nb]) | 7 => vQ = (.int .i64 nv) | 8 => vQ = (.bool nb) | 9 => vQ = (.int .i64 nv) | 10 => vQ = (.bool nb) | _ => True) rfl (by kernel_rfl) (Below.refl _ _) (fun _ _ _ h k => h.trans (k.mono h.size)) (fun _ _ _ _ h _ => h) ?_ ?_
                    · refine ⟨?_, ?_, ?_, ?_, ?_, ?_, ?_, ?_, ?_, ?_, ?_, trivial⟩
                      · intro a w' hx hu hd K hK; have e4 : a.tmps.getD 4 undef = (.slice (some ad) n2 c1) := hu 4 rfl; exact Flow.run1 rfl (Flow.r_move rfl e4) (hK _ _ (Below.refl _ _) rfl)
                      · intro a w' hx hu hd K hK; have e14 : a.tmps.getD 14 undef = (.int .i64 k) := hu 14 rfl; exact Flow.run1 rfl (Flow.r_move rfl e14) (hK _ _ (Below.refl _ _) rfl)
                      · intro a w' hx hu hd K hK; have e85 := Flow.got (hd 1 rfl) 85 rfl; exact Flow.run1 rfl (addk rfl rfl e85 HA4.out.1 HA4.out.2.1 HA4.out.2.2) (hK _ _ (Below.refl _ _) rfl)
                      · intro a w' hx hu hd K hK; have e84 := Flow.got (hd 0 rfl) 84 rfl; have e86 := Flow.got (hd 2 rfl) 86 rfl; exact Flow.run1 rfl (ix (i := k1) Tryd.underlying79 size9 rfl e84 e86 hk1n) (hK _ _ (Below.refl _ _) rfl)
                      · intro a w' hx hu hd K hK; have e87 := Flow.got (hd 3 rfl) 87 rfl; exact Flow.run1 rfl (ld rfl e87 (pw_cell_below (below_step HB27.out hx) HCT.out) Tryd.underlying9 rfl) (hK _ _ (Below.refl _ _) rfl)
                      · intro a w' hx hu hd K hK; have e88 := Flow.got (hd 4 rfl) 88 rfl; refine Flow.want rfl ?_; refine Flow.val_call rfl Tryd.func51 (by kernel_rfl) rfl (by first | (simp only [List.map_toArray, List.map_cons, List.map_nil, Act.eval, e88]; done) | (simp only [List.map_toArray, List.map_cons, List.map_nil, Act.eval, e88]; rfl)) (rnumber_c tx HNV.out HNB2.out w') ?_; rintro e w2 ⟨rfl, hb2⟩; exact ⟨_, rfl, hK _ _ hb2 (by rfl)⟩
                      · intro a w' hx hu hd K hK; have e89 := Flow.got (hd 5 rfl) 89 rfl; exact Flow.run1 rfl (Flow.r_move rfl e89) (hK _ _ (Below.refl _ _) rfl)
                      · intro a w' hx hu hd K hK; have e83 := Flow.got (hd 6 rfl) 83 rfl; exact Flow.run1 rfl (extr rfl e83 rfl) (hK _ _ (Below.refl _ _) rfl)
                      · intro a w' hx hu hd K hK; have e83 := Flow.got (hd 6 rfl) 83 rfl; exact Flow.run1 rfl (extr rfl e83 rfl) (hK _ _ (Below.refl _ _) rfl)
                      · intro a w' hx hu hd K hK; have e90 := Flow.got (hd 7 rfl) 90 rfl; exact Flow.run1 rfl (Flow.r_assign rfl e90) (hK _ _ (Below.refl _ _) rfl)
                      · intro a w' hx hu hd K hK; have e91 := Flow.got (hd 8 rfl) 91 rfl; exact Flow.run1 rfl (Flow.r_assign rfl e91) (hK _ _ (Below.refl _ _) rfl)
                    intro vs W28 hb28 hT
                    have v0 := Flow.eqn (hT 0 (by decide))
                    have v1 := Flow.eqn (hT 1 (by decide))
                    have v2 := Flow.eqn (hT 2 (by decide))
                    have v3 := Flow.eqn (hT 3 (by decide))
                    have v4 := Flow.eqn (hT 4 (by decide))
                    have v5 := Flow.eqn (hT 5 (by decide))
                    have v6 := Flow.eqn (hT 6 (by decide))
                    have v7 := Flow.eqn (hT 7 (by decide))
                    have v8 := Flow.eqn (hT 8 (by decide))
                    have v9 := Flow.eqn (hT 9 (by decide))
                    have v10 := Flow.eqn (hT 10 (by decide))
                    simp only [Flow.putsT, v0, v1, v2, v3, v4, v5, v6, v7, v8, v9, v10, Act.put, List.setIfInBounds_toArray, List.set_cons_zero, List.set_cons_succ]
                    clear hT v0 v1 v2 v3 v4 v5 v6 v7 v8 v9 v10
                    have HB28 := Aside0.mk (below_step HB27.out hb28)
                    have HKA_27_28 := Aside0.mk (blk_below HKA_27.out hb28)
                    clear hb28
                    cases nb with
                    | true =>
                      go_upto_region 23 with fail
                      refine Flow.seqT (E := fun u v => Below u.heap.size u v) [(some 92, []), (some 93, [0])] (fun iQ vQ wQ => match iQ with | 0 => vQ = (.bool true) | 1 => vQ = (.bool false) | _ => True) rfl (by kernel_rfl) (Below.refl _ _) (fun _ _ _ h k => h.trans (k.mono h.size)) (fun _ _ _ _ h _ => h) ?_ ?_
                      · refine ⟨?_, ?_, trivial⟩
                        · intro a w' hx hu hd K hK; have e16 : a.tmps.getD 16 undef = (.bool true) := hu 16 rfl; exact Flow.run1 rfl (Flow.r_move rfl e16) (hK _ _ (Below.refl _ _) rfl)
                        · intro a w' hx hu hd K hK; have e92 := Flow.got (hd 0 rfl) 92 rfl; exact Flow.run1 rfl (Flow.r_not rfl e92) (hK _ _ (Below.refl _ _) rfl)
                      intro vs W29 hb29 hT
                      have v0 := Flow.eqn (hT 0 (by decide))
                      have v1 := Flow.eqn (hT 1 (by decide))
                      simp only [Flow.putsT, v0, v1, Act.put, List.setIfInBounds_toArray, List.set_cons_zero, List.set_cons_succ]
                      clear hT v0 v1
                      have HB29 := Aside0.mk (below_step HB28.out hb29)
                      have HKA_27_28_29 := Aside0.mk (blk_below HKA_27_28.out hb29)
                      clear hb29
                      go_upto_region 25 with fail
                      refine Flow.seqT_head (E := fun u v => Below u.heap.size u v) 3 [(some 95, []), (some 96, []), (some 97, [0, 0, 1]), (none, [2, 1, 0, 1])] (fun iQ vQ wQ => match iQ with | 0 => vQ = (.int .i64 k) | 1 => vQ = (.int .i64 nv) | 2 => vQ = (.pointer (some ⟨g25, 0 + k, none⟩)) | _ => True) rfl (by decide) (by kernel_rfl) (Below.refl _ _) (fun _ _ _ h k => h.trans (k.mono h.size)) (fun _ _ _ _ h _ => h) ?_ ?_
                      · refine ⟨?_, ?_, ?_, trivial⟩
                        · intro a w' hx hu hd K hK; have e14 : a.tmps.getD 14 undef = (.int .i64 k) := hu 14 rfl; exact Flow.run1 rfl (Flow.r_move rfl e14) (hK _ _ (Below.refl _ _) rfl)
                        · intro a w' hx hu hd K hK; have e15 : a.tmps.getD 15 undef = (.int .i64 nv) := hu 15 rfl; exact Flow.run1 rfl (Flow.r_move rfl e15) (hK _ _ (Below.refl _ _) rfl)
                        · intro a w' hx hu hd K hK; have e13 : a.tmps.getD 13 undef = (.pointer (some ⟨g25, 0, none⟩)) := hu 13 rfl; have e95 := Flow.got (hd 0 rfl) 95 rfl; exact Flow.run1 rfl (ixa (i := k) arr104_u arr104_l arr104_e size3 rfl e13 e95 (by omega)) (hK _ _ (Below.refl _ _) rfl)
                      intro vs W30 hb30 hT
                      have v0 := Flow.eqn (hT 0 (by decide))
                      have v1 := Flow.eqn (hT 1 (by decide))
                      have v2 := Flow.eqn (hT 2 (by decide))
                      simp only [Flow.putsT, v0, v1, v2, Act.put, List.setIfInBounds_toArray, List.set_cons_zero, List.set_cons_succ, List.drop_succ_cons, List.drop_zero, List.take_succ_cons, List.take_zero]
                      clear hT v0 v1 v2
                      have HB30 := Aside0.mk (below_step HB29.out hb30)
                      have HKA_27_28_29_30 := Aside0.mk (blk_below HKA_27_28_29.out hb30)
                      clear hb30
                      refine put_event rfl rfl 3 _ _ rfl g25 (0 + k) (.int .i64 nv) #[.int .i64 (nn k l2 0), .int .i64 (nn k l2 1), .int .i64 (nn k l2 2)] #[.int .i64 (nn (k + 1) l2 0), .int .i64 (nn (k + 1) l2 1), .int .i64 (nn (k + 1) l2 2)] rfl rfl rfl size3 HKA_27_28_29_30.out (show 0 + k < 3 by omega) (nn_put (show k < 3 by omega) (HTX.out.symm ▸ HNV.out)) ?_
                      intro W31 hk31 hf31 hb31
                      have HB31 := Aside0.mk (HB30.out.trans (hb31 _ Gg25.out))
                      have Kg25_31 := Aside0.mk hk31
                      clear hk31 hf31 hb31
                      go_wp2
                      go_roundg (mn - (k + 1))
                      case measure => have := HGK.out; omega
                      case rel => exact ⟨k + 1, by omega, ⟨rfl⟩, by go_num, HB31, Kg25_31, ⟨fun j hj => by rcases Nat.lt_or_eq_of_le (Nat.lt_succ_iff.1 hj) with h | h; exact HOK.out j h; rw [h, HTX.out]; exact HNB2.out⟩⟩
                    | false =>
                      go_upto_region 23 with fail
                      refine Flow.seqT (E := fun u v => Below u.heap.size u v) [(some 92, []), (some 93, [0])] (fun iQ vQ wQ => match iQ with | 0 => vQ = (.bool false) | 1 => vQ = (.bool true) | _ => True) rfl (by kernel_rfl) (Below.refl _ _) (fun _ _ _ h k => h.trans (k.mono h.size)) (fun _ _ _ _ h _ => h) ?_ ?_
                      · refine ⟨?_, ?_, trivial⟩
                        · intro a w' hx hu hd K hK; have e16 : a.tmps.getD 16 undef = (.bool false) := hu 16 rfl; exact Flow.run1 rfl (Flow.r_move rfl e16) (hK _ _ (Below.refl _ _) rfl)
                        · intro a w' hx hu hd K hK; have e92 := Flow.got (hd 0 rfl) 92 rfl; exact Flow.run1 rfl (Flow.r_not rfl e92) (hK _ _ (Below.refl _ _) rfl)
                      intro vs W32 hb32 hT
                      have v0 := Flow.eqn (hT 0 (by decide))
                      have v1 := Flow.eqn (hT 1 (by decide))
                      simp only [Flow.putsT, v0, v1, Act.put, List.setIfInBounds_toArray, List.set_cons_zero, List.set_cons_succ]
                      clear hT v0 v1
                      have HB32 := Aside0.mk (below_step HB28.out hb32)
                      have HKA_27_28_32 := Aside0.mk (blk_below HKA_27_28.out hb32)
                      clear hb32
                      obtain rfl : r = (zA, false) := by rw [HPB.out, fil_fail k (by rw [HM.out]; exact hkm) (by rw [HM.out, HLB.out]; exact hnbm) HOK.out (by rw [HTX.out]; exact HNB2.out)]; rfl
                      have HB33 := Aside0.mk (below_step (below_step HB4.out HB23.out) HB32.out)
                      have Kg1_2_3_4_24_33 := Aside0.mk (blk_below Kg1_2_3_4_24.out HB32.out)
                      have HKc3_23_33 := Aside0.mk (blk_below HKc3_23.out HB32.out)
                      go_upto_region 24 with fail
                      refine Flow.seqT_head (E := fun u v => Below u.heap.size u v) 1 [(some 94, []), (none, [0, 0]), (some 3, [1, 0, 1])] (fun iQ vQ wQ => match iQ with | 0 => vQ = (.agg #[.int .i64 0, .int .i64 0, .int .i64 0, .int .i64 0, .int .i64 0, .slice none 0 0, .bool false, .int .i64 0, .int .i64 0, .slice none 0 0]) | _ => True) rfl (by decide) (by kernel_rfl) (Below.refl _ _) (fun _ _ _ h k => h.trans (k.mono h.size)) (fun _ _ _ _ h _ => h) ?_ ?_
                      · refine ⟨?_, trivial⟩
                        · intro a w' hx hu hd K hK; exact Flow.run1 rfl (bldz56 rfl) (hK _ _ (Below.refl _ _) rfl)
                      intro vs W34 hb34 hT
                      have v0 := Flow.eqn (hT 0 (by decide))
                      simp only [Flow.putsT, v0, Act.put, List.setIfInBounds_toArray, List.set_cons_zero, List.set_cons_succ, List.drop_succ_cons, List.drop_zero, List.take_succ_cons, List.take_zero]
                      clear hT v0
                      have HB34 := Aside0.mk (below_step HB33.out hb34)
                      have HKA_27_28_32_34 := Aside0.mk (blk_below HKA_27_28_32.out hb34)
                      have Kg1_2_3_4_24_33_34 := Aside0.mk (blk_below Kg1_2_3_4_24_33.out hb34)
                      have HKc3_23_33_34 := Aside0.mk (blk_below HKc3_23_33.out hb34)
                      clear hb34
                      refine Cells.store_whole rfl rfl 56 _ _ rfl g1 [.int .i64 0, .int .i64 0, .int .i64 0, .int .i64 0, .int .i64 0, .slice none 0 0, .bool false, .int .i64 0, .int .i64 0, .slice none 0 0] #[.int .i64 0, .int .i64 0, .int .i64 0, .int .i64 0, .int .i64 0, .slice none 0 0, .bool false, .int .i64 0, .int .i64 0, .slice none 0 0] rfl rfl Kg1_2_3_4_24_33_34.out rfl size56 rfl ?_
                      intro W35 hk35 hf35 hb35
                      have HB35 := Aside0.mk (HB34.out.trans (hb35 _ Gg1.out))
                      have Kg1_35 := Aside0.mk hk35
                      clear hk35 hf35 hb35
                      refine Flow.seqL (E := fun u v => Below u.heap.size u v) 2 1 [(some 94, []), (none, [0, 0]), (some 3, [1, 0, 1])] (fun iQ vQ wQ => match iQ with | 2 => vQ = (.bool false) | _ => True) rfl (by decide) (by kernel_rfl) (Below.refl _ _) (fun _ _ _ h k => h.trans (k.mono h.size)) (fun _ _ _ _ h _ => h) ?_ ?_
                      · refine ⟨?_, trivial⟩
                        · intro a w' hx hu hd K hK; exact Flow.run1 rfl (Flow.r_assign rfl rfl) (hK _ _ (Below.refl _ _) rfl)
                      intro vs W36 hb36 hT
                      have v2 := Flow.eqn (hT 2 (by decide) (by decide))
                      simp only [Flow.putsT, v2, Act.put, List.setIfInBounds_toArray, List.set_cons_zero, List.set_cons_succ, List.drop_succ_cons, List.drop_zero, List.take_succ_cons, List.take_zero]
                      clear hT v2
                      have HB36 := Aside0.mk (below_step HB35.out hb36)
                      have Kg1_35_36 := Aside0.mk (blk_below Kg1_35.out hb36)
                      clear hb36
                      go_wp2_with fail
                      exact bodyPost_ret (results_ct Tryd.results29 _ _ g1 56 _ _ _ rfl Kg1_35_36.out Tryd.underlying56 rfl size56) rfl ⟨.slice none 0 0, .slice none 0 0, rfl, Kd.R_nil _ _ _ _ _, Kd.R_nil _ _ _ _ _, HB36.out⟩
                  · obtain rfl : k = mn := by omega
                    have hkm2 : ¬ ((k : Nat) : Int) < k := by omega
                    go_upto_region 20 with fail
                    refine Flow.seqT (E := fun u v => Below u.heap.size u v) [(some 78, []), (some 79, []), (some 80, [0, 1])] (fun iQ vQ wQ => match iQ with | 0 => vQ = (.int .i64 k) | 1 => vQ = (.int .i64 k) | 2 => vQ = (.bool false) | _ => True) rfl (by kernel_rfl) (Below.refl _ _) (fun _ _ _ h k => h.trans (k.mono h.size)) (fun _ _ _ _ h _ => h) ?_ ?_
                    · refine ⟨?_, ?_, ?_, trivial⟩
                      · intro a w' hx hu hd K hK; have e14 : a.tmps.getD 14 undef = (.int .i64 k) := hu 14 rfl; exact Flow.run1 rfl (Flow.r_move rfl e14) (hK _ _ (Below.refl _ _) rfl)
                      · intro a w' hx hu hd K hK; have e7 : a.tmps.getD 7 undef = (.int .i64 k) := hu 7 rfl; exact Flow.run1 rfl (Flow.r_move rfl e7) (hK _ _ (Below.refl _ _) rfl)
                      · intro a w' hx hu hd K hK; have e78 := Flow.got (hd 0 rfl) 78 rfl; have e79 := Flow.got (hd 1 rfl) 79 rfl; exact Flow.run1 rfl (no (lss rfl e78 e79) (decide_eq_false hkm2)) (hK _ _ (Below.refl _ _) rfl)
                    intro vs W37 hb37 hT
                    have v0 := Flow.eqn (hT 0 (by decide))
                    have v1 := Flow.eqn (hT 1 (by decide))
                    have v2 := Flow.eqn (hT 2 (by decide))
                    simp only [Flow.putsT, v0, v1, v2, Act.put, List.setIfInBounds_toArray, List.set_cons_zero, List.set_cons_succ]
                    clear hT v0 v1 v2
                    have HB37 := Aside0.mk (below_step HBR2.out hb37)
                    have HKA_37 := Aside0.mk (blk_below HKA.out hb37)
                    clear hb37
                    go_upto_region 26 with fail
                    refine Flow.seqT (E := fun u v => Below u.heap.size u v) [(some 17, [])] (fun iQ vQ wQ => match iQ with | 0 => vQ = (.slice none 0 0) | _ => True) rfl (by kernel_rfl) (Below.refl _ _) (fun _ _ _ h k => h.trans (k.mono h.size)) (fun _ _ _ _ h _ => h) ?_ ?_
                    · refine ⟨?_, trivial⟩
                      · intro a w' hx hu hd K hK; exact Flow.run1 rfl (Flow.r_assign rfl rfl) (hK _ _ (Below.refl _ _) rfl)
                    intro vs W38 hb38 hT
                    have v0 := Flow.eqn (hT 0 (by decide))
                    simp only [Flow.putsT, v0, Act.put, List.setIfInBounds_toArray, List.set_cons_zero, List.set_cons_succ]
                    clear hT v0
                    have HB38 := Aside0.mk (below_step HB37.out hb38)
                    have HKA_37_38 := Aside0.mk (blk_below HKA_37.out hb38)
                    clear hb38
                    cases bb with
                    | true =>
                      go_upto_region 27 with fail
                      refine Flow.seqT (E := fun u v => Below u.heap.size u v) [(some 98, [])] (fun iQ vQ wQ => match iQ with | 0 => vQ = (.bool true) | _ => True) rfl (by kernel_rfl) (Below.refl _ _) (fun _ _ _ h k => h.trans (k.mono h.size)) (fun _ _ _ _ h _ => h) ?_ ?_
                      · refine ⟨?_, trivial⟩
                        · intro a w' hx hu hd K hK; have e8 : a.tmps.getD 8 undef = (.bool true) := hu 8 rfl; exact Flow.run1 rfl (Flow.r_move rfl e8) (hK _ _ (Below.refl _ _) rfl)
                      intro vs W39 hb39 hT
                      have v0 := Flow.eqn (hT 0 (by decide))
                      simp only [Flow.putsT, v0, Act.put, List.setIfInBounds_toArray, List.set_cons_zero, List.set_cons_succ]
                      clear hT v0
                      have HB39 := Aside0.mk (below_step HB38.out hb39)
                      have HKA_37_38_39 := Aside0.mk (blk_below HKA_37_38.out hb39)
                      clear hb39
                      have hnbk : nB i = k + 1 := by have := HNB.out; rw [if_pos rfl] at this; exact this
                      obtain ⟨ndm, HDM⟩ : ∃ q, Aside0 (nB i = q) := ⟨_, ⟨rfl⟩⟩
                      have hdm := HDM.out
                      have hkl : k < l2.length := by have := HLB.out; omega
                      have hndm : ndm < n2 := by have := HQQ.out; omega
                      have HA4 : Aside0 ((nd : Int) - 1 = ndm ∧ -9223372036854775808 ≤ (ndm : Int) ∧ (ndm : Int) ≤ 9223372036854775807) := ⟨by omega⟩
                      obtain ⟨tx, HTX⟩ : ∃ q, Aside0 (l2.getD k ByteArray.empty = q) := ⟨_, ⟨rfl⟩⟩
                      obtain ⟨⟨r1, r2⟩, HXX⟩ : ∃ q, Aside0 (hx tx = q) := ⟨_, ⟨rfl⟩⟩
                      have htm : tx ∈ l := by have h := take_get HL2.out hkl; rw [← HTX.out, ← h.2, List.getD_eq_getElem?_getD, List.getElem?_eq_getElem h.1]; exact List.getElem_mem h.1
                      obtain ⟨kh, hkh⟩ := HHX.out tx htm
                      rw [HXX.out] at hkh
                      have HKH := Aside0.mk hkh
                      clear hkh htm
                      have HCT : Aside0 (W23.cell? (ad.add (ndm * 1)) = some (.string tx)) := ⟨by have h := HALL2.out k hkl; rw [show k + 1 = ndm by omega, HTX.out] at h; exact h⟩
                      obtain ⟨pl, HPL⟩ : ∃ q, Aside0 ((frm i).2.2.2 = some q) := by have h := HBB.out; cases hq : (frm i).2.2.2 with | none => rw [hq] at h; cases h | some q => exact ⟨q, ⟨rfl⟩⟩
                      have HTK := Aside0.mk (show l2.getD (nB i - 1) ByteArray.empty = tx by rw [hnbk]; exact HTX.out)
                      go_upto_region 28 with fail
                      refine Flow.seqT_head (E := fun u v => Below u.heap.size u v) 6 [(some 100, []), (some 101, []), (some 102, [1]), (some 103, [0, 2]), (some 104, [3]), (some 105, [4]), (some 99, [5]), (some 106, [6]), (some 107, [6]), (some 18, [7, 5, 0, 1, 2, 3, 4, 5, 6, 7]), (some 19, [8, 9, 0, 1, 2, 3, 4, 5, 6, 7, 8, 9])] (fun iQ vQ wQ => match iQ with | 0 => vQ = (.slice (some ad) n2 c1) | 1 => vQ = (.int .i64 nd) | 2 => vQ = (.int .i64 ndm) | 3 => vQ = (.pointer (some (ad.add (ndm * 1)))) | 4 => vQ = (.string tx) | 5 => HexV r1 r2 W23.heap.size vQ wQ | _ => True) rfl (by decide) (by kernel_rfl) (Below.refl _ _) (fun _ _ _ h k => h.trans (k.mono h.size)) (fun iQ vQ w1Q w2Q hQ hEQ => match iQ, hQ with | 0, hQ => hQ | 1, hQ => hQ | 2, hQ => hQ | 3, hQ => hQ | 4, hQ => hQ | 5, hQ => hQ.below hEQ | _ + 6, _ => trivial) ?_ ?_
                      · refine ⟨?_, ?_, ?_, ?_, ?_, ?_, trivial⟩
                        · intro a w' hx hu hd K hK; have e4 : a.tmps.getD 4 undef = (.slice (some ad) n2 c1) := hu 4 rfl; exact Flow.run1 rfl (Flow.r_move rfl e4) (hK _ _ (Below.refl _ _) rfl)
                        · intro a w' hx hu hd K hK; have e12 : a.tmps.getD 12 undef = (.int .i64 nd) := hu 12 rfl; exact Flow.run1 rfl (Flow.r_move rfl e12) (hK _ _ (Below.refl _ _) rfl)
                        · intro a w' hx hu hd K hK; have e101 := Flow.got (hd 1 rfl) 101 rfl; exact Flow.run1 rfl (subk rfl e101 rfl HA4.out.1 HA4.out.2.1 HA4.out.2.2) (hK _ _ (Below.refl _ _) rfl)
                        · intro a w' hx hu hd K hK; have e100 := Flow.got (hd 0 rfl) 100 rfl; have e102 := Flow.got (hd 2 rfl) 102 rfl; exact Flow.run1 rfl (ix (i := ndm) Tryd.underlying79 size9 rfl e100 e102 hndm) (hK _ _ (Below.refl _ _) rfl)
                        · intro a w' hx hu hd K hK; have e103 := Flow.got (hd 3 rfl) 103 rfl; exact Flow.run1 rfl (ld rfl e103 (pw_cell_below (below_step HB39.out hx) HCT.out) Tryd.underlying9 rfl) (hK _ _ (Below.refl _ _) rfl)
                        · intro a w' hx hu hd K hK; have e104 := Flow.got (hd 4 rfl) 104 rfl; refine Flow.want rfl ?_; refine Flow.val_call rfl Tryd.func52 (by kernel_rfl) rfl (by first | (simp only [List.map_toArray, List.map_cons, List.map_nil, Act.eval, e104]; done) | (simp only [List.map_toArray, List.map_cons, List.map_nil, Act.eval, e104]; rfl)) (revetmentref37_Hex.calls kh tx r1 r2 w' HKH.out) ?_; rintro e w2 ⟨v0, rfl, hR, hb2⟩; exact ⟨_, rfl, hK _ _ hb2 ⟨v0, rfl, Kd.R_lower hR (below_step HB39.out hx).size⟩⟩
                      intro vs W40 hb40 hT
                      have v0 := Flow.eqn (hT 0 (by decide))
                      have v1 := Flow.eqn (hT 1 (by decide))
                      have v2 := Flow.eqn (hT 2 (by decide))
                      have v3 := Flow.eqn (hT 3 (by decide))
                      have v4 := Flow.eqn (hT 4 (by decide))
                      obtain ⟨v0, v5, hR0⟩ : HexV r1 r2 W23.heap.size _ _ := hT 5 (by decide)
                      obtain ⟨Ax, cx, rfl, -, -⟩ := Kd.R_reads hR0
                      have HRX := Aside0.mk hR0
                      clear hR0
                      simp only [Flow.putsT, v0, v1, v2, v3, v4, v5, Act.put, List.setIfInBounds_toArray, List.set_cons_zero, List.set_cons_succ, List.drop_succ_cons, List.drop_zero, List.take_succ_cons, List.take_zero]
                      clear hT v0 v1 v2 v3 v4 v5
                      have HB40 := Aside0.mk (below_step HB39.out hb40)
                      have HKA_37_38_39_40 := Aside0.mk (blk_below HKA_37_38_39.out hb40)
                      clear hb40
                      refine Flow.seqL (E := fun u v => Below u.heap.size u v) 6 5 [(some 100, []), (some 101, []), (some 102, [1]), (some 103, [0, 2]), (some 104, [3]), (some 105, [4]), (some 99, [5]), (some 106, [6]), (some 107, [6]), (some 18, [7, 5, 0, 1, 2, 3, 4, 5, 6, 7]), (some 19, [8, 9, 0, 1, 2, 3, 4, 5, 6, 7, 8, 9])] (fun iQ vQ wQ => match iQ with | 6 => vQ = (.tuple #[.slice Ax r1.length cx, .bool r2]) | 7 => vQ = (.slice Ax r1.length cx) | 8 => vQ = (.bool r2) | 9 => vQ = (.slice Ax r1.length cx) | 10 => vQ = (.bool r2) | _ => True) rfl (by decide) (by kernel_rfl) (Below.refl _ _) (fun _ _ _ h k => h.trans (k.mono h.size)) (fun _ _ _ _ h _ => h) ?_ ?_
                      · refine ⟨?_, ?_, ?_, ?_, ?_, trivial⟩
                        · intro a w' hx hu hd K hK; have e105 : a.tmps.getD 105 undef = (.tuple #[.slice Ax r1.length cx, .bool r2]) := hu 105 rfl; exact Flow.run1 rfl (Flow.r_move rfl e105) (hK _ _ (Below.refl _ _) rfl)
                        · intro a w' hx hu hd K hK; have e99 := Flow.got (hd 6 rfl) 99 rfl; exact Flow.run1 rfl (extr rfl e99 rfl) (hK _ _ (Below.refl _ _) rfl)
                        · intro a w' hx hu hd K hK; have e99 := Flow.got (hd 6 rfl) 99 rfl; exact Flow.run1 rfl (extr rfl e99 rfl) (hK _ _ (Below.refl _ _) rfl)
                        · intro a w' hx hu hd K hK; have e106 := Flow.got (hd 7 rfl) 106 rfl; exact Flow.run1 rfl (Flow.r_assign rfl e106) (hK _ _ (Below.refl _ _) rfl)
                        · intro a w' hx hu hd K hK; have e107 := Flow.got (hd 8 rfl) 107 rfl; exact Flow.run1 rfl (Flow.r_assign rfl e107) (hK _ _ (Below.refl _ _) rfl)
                      intro vs W41 hb41 hT
                      have v6 := Flow.eqn (hT 6 (by decide) (by decide))
                      have v7 := Flow.eqn (hT 7 (by decide) (by decide))
                      have v8 := Flow.eqn (hT 8 (by decide) (by decide))
                      have v9 := Flow.eqn (hT 9 (by decide) (by decide))
                      have v10 := Flow.eqn (hT 10 (by decide) (by decide))
                      simp only [Flow.putsT, v6, v7, v8, v9, v10, Act.put, List.setIfInBounds_toArray, List.set_cons_zero, List.set_cons_succ, List.drop_succ_cons, List.drop_zero, List.take_succ_cons, List.take_zero]
                      clear hT v6 v7 v8 v9 v10
                      have HB41 := Aside0.mk (below_step HB40.out hb41)
                      have HRX_41 := Aside0.mk (Kd.R_below HRX.out hb41)
                      have HKA_37_38_39_40_41 := Aside0.mk (blk_below HKA_37_38_39_40.out hb41)
                      clear hb41
                      cases r2 with
                      | true =>
                        go_upto_region 29 with fail
                        refine Flow.seqT (E := fun u v => Below u.heap.size u v) [(some 108, []), (some 109, [0])] (fun iQ vQ wQ => match iQ with | 0 => vQ = (.bool true) | 1 => vQ = (.bool false) | _ => True) rfl (by kernel_rfl) (Below.refl _ _) (fun _ _ _ h k => h.trans (k.mono h.size)) (fun _ _ _ _ h _ => h) ?_ ?_
                        · refine ⟨?_, ?_, trivial⟩
                          · intro a w' hx hu hd K hK; have e19 : a.tmps.getD 19 undef = (.bool true) := hu 19 rfl; exact Flow.run1 rfl (Flow.r_move rfl e19) (hK _ _ (Below.refl _ _) rfl)
                          · intro a w' hx hu hd K hK; have e108 := Flow.got (hd 0 rfl) 108 rfl; exact Flow.run1 rfl (Flow.r_not rfl e108) (hK _ _ (Below.refl _ _) rfl)
                        intro vs W42 hb42 hT
                        have v0 := Flow.eqn (hT 0 (by decide))
                        have v1 := Flow.eqn (hT 1 (by decide))
                        simp only [Flow.putsT, v0, v1, Act.put, List.setIfInBounds_toArray, List.set_cons_zero, List.set_cons_succ]
                        clear hT v0 v1
                        have HB42 := Aside0.mk (below_step HB41.out hb42)
                        have HRX_42 := Aside0.mk (Kd.R_below HRX_41.out hb42)
                        have HKA_37_38_39_40_41_42 := Aside0.mk (blk_below HKA_37_38_39_40_41.out hb42)
                        clear hb42
                        go_upto_region 31 with fail
                        refine Flow.seqT (E := fun u v => Below u.heap.size u v) [(some 111, []), (some 17, [0, 0])] (fun iQ vQ wQ => match iQ with | 0 => vQ = (.slice Ax r1.length cx) | 1 => vQ = (.slice Ax r1.length cx) | _ => True) rfl (by kernel_rfl) (Below.refl _ _) (fun _ _ _ h k => h.trans (k.mono h.size)) (fun _ _ _ _ h _ => h) ?_ ?_
                        · refine ⟨?_, ?_, trivial⟩
                          · intro a w' hx hu hd K hK; have e18 : a.tmps.getD 18 undef = (.slice Ax r1.length cx) := hu 18 rfl; exact Flow.run1 rfl (Flow.r_move rfl e18) (hK _ _ (Below.refl _ _) rfl)
                          · intro a w' hx hu hd K hK; have e111 := Flow.got (hd 0 rfl) 111 rfl; exact Flow.run1 rfl (Flow.r_assign rfl e111) (hK _ _ (Below.refl _ _) rfl)
                        intro vs W43 hb43 hT
                        have v0 := Flow.eqn (hT 0 (by decide))
                        have v1 := Flow.eqn (hT 1 (by decide))
                        simp only [Flow.putsT, v0, v1, Act.put, List.setIfInBounds_toArray, List.set_cons_zero, List.set_cons_succ]
                        clear hT v0 v1
                        have HB43 := Aside0.mk (below_step HB42.out hb43)
                        have HRX_43 := Aside0.mk (Kd.R_below HRX_42.out hb43)
                        have HKA_37_38_39_40_41_42_43 := Aside0.mk (blk_below HKA_37_38_39_40_41_42.out hb43)
                        clear hb43
                        obtain ⟨x, y, vd, vk, hfil, hout, hfc, hRR⟩ := fin_ok hlt fb HLB.out (by rw [HM.out]; exact HOK.out) r1 (.slice Ax r1.length cx) (fun h => by rw [HPL.out] at h; cases h)
                        rw [HM.out, HKD.out, HCM.out] at hfc
                        obtain ⟨hRd, hRk⟩ := hRR W43 w.heap.size (Kd.R_lower HRX_43.out (below_step HB4.out HB23.out).size)
                        obtain ⟨Ad, cd, rfl, -, -⟩ := Kd.R_reads hRd
                        obtain ⟨Ak, ck, rfl, -, -⟩ := Kd.R_reads hRk
                        have HFC := Aside0.mk hfc
                        have HRD := Aside0.mk hRd
                        have HRK := Aside0.mk hRk
                        clear hRd hRk hfc hRR
                        obtain rfl : r = (y, true) := by rw [HPB.out, HTK.out, HXX.out, hfil, ← hout]
                        clear hfil hout
                        have HB44 := Aside0.mk (below_step (below_step HB4.out HB23.out) HB43.out)
                        have Kg1_2_3_4_24_44 := Aside0.mk (blk_below Kg1_2_3_4_24.out HB43.out)
                        have HKc3_23_44 := Aside0.mk (blk_below HKc3_23.out HB43.out)
                        go_upto_region 32 with fail
                        refine Flow.seqT_head (E := fun u v => Below u.heap.size u v) 4 [(some 112, []), (some 113, []), (some 114, []), (some 115, [0, 1, 2]), (none, [3, 3, 0, 1, 2, 3]), (some 3, [4, 0, 1, 2, 3, 4])] (fun iQ vQ wQ => match iQ with | 0 => vQ = (.agg #[.int .i64 kd, .int .i64 cm, .int .i64 0, .int .i64 0, .int .i64 0, .slice none 0 0, .bool fb, .int .i64 0, .int .i64 0, .slice none 0 0]) | 1 => vQ = (.agg #[.int .i64 (nn k l2 0), .int .i64 (nn k l2 1), .int .i64 (nn k l2 2)]) | 2 => vQ = (.slice Ax r1.length cx) | 3 => vQ = (.agg #[.int .i64 y.kind, .int .i64 y.cmd, .int .i64 y.zone, .int .i64 y.at_, .int .i64 y.n, .slice Ad y.data.length cd, .bool y.fua, .int .i64 y.m, .int .i64 y.k, .slice Ak y.keep.length ck]) | _ => True) rfl (by decide) (by kernel_rfl) (Below.refl _ _) (fun _ _ _ h k => h.trans (k.mono h.size)) (fun _ _ _ _ h _ => h) ?_ ?_
                        · refine ⟨?_, ?_, ?_, ?_, trivial⟩
                          · intro a w' hx hu hd K hK; have e11 : a.tmps.getD 11 undef = (.pointer (some ⟨g12, 0, none⟩)) := hu 11 rfl; exact Flow.run1 rfl (ldrow rfl e11 (lies_block (blk_below HKc3_23_44.out hx)) Tryd.underlying56 rfl size56) (hK _ _ (Below.refl _ _) rfl)
                          · intro a w' hx hu hd K hK; have e13 : a.tmps.getD 13 undef = (.pointer (some ⟨g25, 0, none⟩)) := hu 13 rfl; exact Flow.run1 rfl (ldrow rfl e13 (lies_block (blk_below HKA_37_38_39_40_41_42_43.out hx)) Tryd.underlying104 rfl size104) (hK _ _ (Below.refl _ _) rfl)
                          · intro a w' hx hu hd K hK; have e17 : a.tmps.getD 17 undef = (.slice Ax r1.length cx) := hu 17 rfl; exact Flow.run1 rfl (Flow.r_move rfl e17) (hK _ _ (Below.refl _ _) rfl)
                          · intro a w' hx hu hd K hK; have e112 := Flow.got (hd 0 rfl) 112 rfl; have e113 := Flow.got (hd 1 rfl) 113 rfl; have e114 := Flow.got (hd 2 rfl) 114 rfl; refine Flow.want rfl ?_; refine Flow.val_call rfl Tryd.func53 (by kernel_rfl) rfl (by first | (simp only [List.map_toArray, List.map_cons, List.map_nil, Act.eval, e112, e113, e114]; done) | (simp only [List.map_toArray, List.map_cons, List.map_nil, Act.eval, e112, e113, e114]; rfl)) (fill_at HFC.out w') ?_; rintro e w2 ⟨rfl, hb2⟩; exact ⟨_, rfl, hK _ _ hb2 (by rfl)⟩
                        intro vs W45 hb45 hT
                        have v0 := Flow.eqn (hT 0 (by decide))
                        have v1 := Flow.eqn (hT 1 (by decide))
                        have v2 := Flow.eqn (hT 2 (by decide))
                        have v3 := Flow.eqn (hT 3 (by decide))
                        simp only [Flow.putsT, v0, v1, v2, v3, Act.put, List.setIfInBounds_toArray, List.set_cons_zero, List.set_cons_succ, List.drop_succ_cons, List.drop_zero, List.take_succ_cons, List.take_zero]
                        clear hT v0 v1 v2 v3
                        have HB45 := Aside0.mk (below_step HB44.out hb45)
                        have HRD_45 := Aside0.mk (Kd.R_below HRD.out hb45)
                        have HRK_45 := Aside0.mk (Kd.R_below HRK.out hb45)
                        have HKA_37_38_39_40_41_42_43_45 := Aside0.mk (blk_below HKA_37_38_39_40_41_42_43.out hb45)
                        have Kg1_2_3_4_24_44_45 := Aside0.mk (blk_below Kg1_2_3_4_24_44.out hb45)
                        have HKc3_23_44_45 := Aside0.mk (blk_below HKc3_23_44.out hb45)
                        clear hb45
                        refine Cells.store_whole rfl rfl 56 _ _ rfl g1 [.int .i64 y.kind, .int .i64 y.cmd, .int .i64 y.zone, .int .i64 y.at_, .int .i64 y.n, .slice Ad y.data.length cd, .bool y.fua, .int .i64 y.m, .int .i64 y.k, .slice Ak y.keep.length ck] #[.int .i64 0, .int .i64 0, .int .i64 0, .int .i64 0, .int .i64 0, .slice none 0 0, .bool false, .int .i64 0, .int .i64 0, .slice none 0 0] rfl rfl Kg1_2_3_4_24_44_45.out rfl size56 rfl ?_
                        intro W46 hk46 hf46 hb46
                        have HRD_46 := Aside0.mk (R_far HRD_45.out Kg1_2_3_4_24_44_45.out (by decide) hf46)
                        have HRK_46 := Aside0.mk (R_far HRK_45.out Kg1_2_3_4_24_44_45.out (by decide) hf46)
                        have HB46 := Aside0.mk (HB45.out.trans (hb46 _ Gg1.out))
                        have Kg1_46 := Aside0.mk hk46
                        clear hk46 hf46 hb46
                        refine Flow.seqL (E := fun u v => Below u.heap.size u v) 5 1 [(some 112, []), (some 113, []), (some 114, []), (some 115, [0, 1, 2]), (none, [3, 3, 0, 1, 2, 3]), (some 3, [4, 0, 1, 2, 3, 4])] (fun iQ vQ wQ => match iQ with | 5 => vQ = (.bool true) | _ => True) rfl (by decide) (by kernel_rfl) (Below.refl _ _) (fun _ _ _ h k => h.trans (k.mono h.size)) (fun _ _ _ _ h _ => h) ?_ ?_
                        · refine ⟨?_, trivial⟩
                          · intro a w' hx hu hd K hK; exact Flow.run1 rfl (Flow.r_assign rfl rfl) (hK _ _ (Below.refl _ _) rfl)
                        intro vs W47 hb47 hT
                        have v5 := Flow.eqn (hT 5 (by decide) (by decide))
                        simp only [Flow.putsT, v5, Act.put, List.setIfInBounds_toArray, List.set_cons_zero, List.set_cons_succ, List.drop_succ_cons, List.drop_zero, List.take_succ_cons, List.take_zero]
                        clear hT v5
                        have HB47 := Aside0.mk (below_step HB46.out hb47)
                        have HRD_47 := Aside0.mk (Kd.R_below HRD_46.out hb47)
                        have HRK_47 := Aside0.mk (Kd.R_below HRK_46.out hb47)
                        have Kg1_46_47 := Aside0.mk (blk_below Kg1_46.out hb47)
                        clear hb47
                        go_wp2_with fail
                        exact bodyPost_ret (results_ct Tryd.results29 _ _ g1 56 _ _ _ rfl Kg1_46_47.out Tryd.underlying56 rfl size56) rfl ⟨.slice Ad y.data.length cd, .slice Ak y.keep.length ck, rfl, HRD_47.out, HRK_47.out, HB47.out⟩
                      | false =>
                        go_upto_region 29 with fail
                        refine Flow.seqT (E := fun u v => Below u.heap.size u v) [(some 108, []), (some 109, [0])] (fun iQ vQ wQ => match iQ with | 0 => vQ = (.bool false) | 1 => vQ = (.bool true) | _ => True) rfl (by kernel_rfl) (Below.refl _ _) (fun _ _ _ h k => h.trans (k.mono h.size)) (fun _ _ _ _ h _ => h) ?_ ?_
                        · refine ⟨?_, ?_, trivial⟩
                          · intro a w' hx hu hd K hK; have e19 : a.tmps.getD 19 undef = (.bool false) := hu 19 rfl; exact Flow.run1 rfl (Flow.r_move rfl e19) (hK _ _ (Below.refl _ _) rfl)
                          · intro a w' hx hu hd K hK; have e108 := Flow.got (hd 0 rfl) 108 rfl; exact Flow.run1 rfl (Flow.r_not rfl e108) (hK _ _ (Below.refl _ _) rfl)
                        intro vs W48 hb48 hT
                        have v0 := Flow.eqn (hT 0 (by decide))
                        have v1 := Flow.eqn (hT 1 (by decide))
                        simp only [Flow.putsT, v0, v1, Act.put, List.setIfInBounds_toArray, List.set_cons_zero, List.set_cons_succ]
                        clear hT v0 v1
                        have HB48 := Aside0.mk (below_step HB41.out hb48)
                        have HRX_48 := Aside0.mk (Kd.R_below HRX_41.out hb48)
                        have HKA_37_38_39_40_41_48 := Aside0.mk (blk_below HKA_37_38_39_40_41.out hb48)
                        clear hb48
                        obtain rfl : r = (zA, false) := by rw [HPB.out, HTK.out, HXX.out, HPL.out]; unfold outA; split <;> rfl
                        have HB49 := Aside0.mk (below_step (below_step HB4.out HB23.out) HB48.out)
                        have Kg1_2_3_4_24_49 := Aside0.mk (blk_below Kg1_2_3_4_24.out HB48.out)
                        have HKc3_23_49 := Aside0.mk (blk_below HKc3_23.out HB48.out)
                        go_upto_region 30 with fail
                        refine Flow.seqT_head (E := fun u v => Below u.heap.size u v) 1 [(some 110, []), (none, [0, 0]), (some 3, [1, 0, 1])] (fun iQ vQ wQ => match iQ with | 0 => vQ = (.agg #[.int .i64 0, .int .i64 0, .int .i64 0, .int .i64 0, .int .i64 0, .slice none 0 0, .bool false, .int .i64 0, .int .i64 0, .slice none 0 0]) | _ => True) rfl (by decide) (by kernel_rfl) (Below.refl _ _) (fun _ _ _ h k => h.trans (k.mono h.size)) (fun _ _ _ _ h _ => h) ?_ ?_
                        · refine ⟨?_, trivial⟩
                          · intro a w' hx hu hd K hK; exact Flow.run1 rfl (bldz56 rfl) (hK _ _ (Below.refl _ _) rfl)
                        intro vs W50 hb50 hT
                        have v0 := Flow.eqn (hT 0 (by decide))
                        simp only [Flow.putsT, v0, Act.put, List.setIfInBounds_toArray, List.set_cons_zero, List.set_cons_succ, List.drop_succ_cons, List.drop_zero, List.take_succ_cons, List.take_zero]
                        clear hT v0
                        have HB50 := Aside0.mk (below_step HB49.out hb50)
                        have HKA_37_38_39_40_41_48_50 := Aside0.mk (blk_below HKA_37_38_39_40_41_48.out hb50)
                        have Kg1_2_3_4_24_49_50 := Aside0.mk (blk_below Kg1_2_3_4_24_49.out hb50)
                        have HKc3_23_49_50 := Aside0.mk (blk_below HKc3_23_49.out hb50)
                        clear hb50
                        refine Cells.store_whole rfl rfl 56 _ _ rfl g1 [.int .i64 0, .int .i64 0, .int .i64 0, .int .i64 0, .int .i64 0, .slice none 0 0, .bool false, .int .i64 0, .int .i64 0, .slice none 0 0] #[.int .i64 0, .int .i64 0, .int .i64 0, .int .i64 0, .int .i64 0, .slice none 0 0, .bool false, .int .i64 0, .int .i64 0, .slice none 0 0] rfl rfl Kg1_2_3_4_24_49_50.out rfl size56 rfl ?_
                        intro W51 hk51 hf51 hb51
                        have HB51 := Aside0.mk (HB50.out.trans (hb51 _ Gg1.out))
                        have Kg1_51 := Aside0.mk hk51
                        clear hk51 hf51 hb51
                        refine Flow.seqL (E := fun u v => Below u.heap.size u v) 2 1 [(some 110, []), (none, [0, 0]), (some 3, [1, 0, 1])] (fun iQ vQ wQ => match iQ with | 2 => vQ = (.bool false) | _ => True) rfl (by decide) (by kernel_rfl) (Below.refl _ _) (fun _ _ _ h k => h.trans (k.mono h.size)) (fun _ _ _ _ h _ => h) ?_ ?_
                        · refine ⟨?_, trivial⟩
                          · intro a w' hx hu hd K hK; exact Flow.run1 rfl (Flow.r_assign rfl rfl) (hK _ _ (Below.refl _ _) rfl)
                        intro vs W52 hb52 hT
                        have v2 := Flow.eqn (hT 2 (by decide) (by decide))
                        simp only [Flow.putsT, v2, Act.put, List.setIfInBounds_toArray, List.set_cons_zero, List.set_cons_succ, List.drop_succ_cons, List.drop_zero, List.take_succ_cons, List.take_zero]
                        clear hT v2
                        have HB52 := Aside0.mk (below_step HB51.out hb52)
                        have Kg1_51_52 := Aside0.mk (blk_below Kg1_51.out hb52)
                        clear hb52
                        go_wp2_with fail
                        exact bodyPost_ret (results_ct Tryd.results29 _ _ g1 56 _ _ _ rfl Kg1_51_52.out Tryd.underlying56 rfl size56) rfl ⟨.slice none 0 0, .slice none 0 0, rfl, Kd.R_nil _ _ _ _ _, Kd.R_nil _ _ _ _ _, HB52.out⟩
                    | false =>
                      go_upto_region 27 with fail
                      refine Flow.seqT (E := fun u v => Below u.heap.size u v) [(some 98, [])] (fun iQ vQ wQ => match iQ with | 0 => vQ = (.bool false) | _ => True) rfl (by kernel_rfl) (Below.refl _ _) (fun _ _ _ h k => h.trans (k.mono h.size)) (fun _ _ _ _ h _ => h) ?_ ?_
                      · refine ⟨?_, trivial⟩
                        · intro a w' hx hu hd K hK; have e8 : a.tmps.getD 8 undef = (.bool false) := hu 8 rfl; exact Flow.run1 rfl (Flow.r_move rfl e8) (hK _ _ (Below.refl _ _) rfl)
                      intro vs W53 hb53 hT
                      have v0 := Flow.eqn (hT 0 (by decide))
                      simp only [Flow.putsT, v0, Act.put, List.setIfInBounds_toArray, List.set_cons_zero, List.set_cons_succ]
                      clear hT v0
                      have HB53 := Aside0.mk (below_step HB38.out hb53)
                      have HKA_37_38_53 := Aside0.mk (blk_below HKA_37_38.out hb53)
                      clear hb53
                      have hnone : (frm i).2.2.2 = none := by have h := HBB.out; cases hq : (frm i).2.2.2 with | none => rfl | some q => rw [hq] at h; cases h
                      obtain ⟨x, y, vd, vk, hfil, hout, hfc, hRR⟩ := fin_ok hlt fb HLB.out (by rw [HM.out]; exact HOK.out) [] (.slice none 0 0) (fun _ => ⟨rfl, rfl⟩)
                      rw [HM.out, HKD.out, HCM.out] at hfc
                      obtain ⟨hRd, hRk⟩ := hRR W53 w.heap.size (Kd.R_nil _ _ _ _ _)
                      obtain ⟨Ad, cd, rfl, -, -⟩ := Kd.R_reads hRd
                      obtain ⟨Ak, ck, rfl, -, -⟩ := Kd.R_reads hRk
                      have HFC := Aside0.mk hfc
                      have HRD := Aside0.mk hRd
                      have HRK := Aside0.mk hRk
                      clear hRd hRk hfc hRR
                      obtain rfl : r = (y, true) := by rw [HPB.out, hfil, hnone]; rw [hnone] at hout; exact hout
                      clear hfil hout
                      have HB54 := Aside0.mk (below_step (below_step HB4.out HB23.out) HB53.out)
                      have Kg1_2_3_4_24_54 := Aside0.mk (blk_below Kg1_2_3_4_24.out HB53.out)
                      have HKc3_23_54 := Aside0.mk (blk_below HKc3_23.out HB53.out)
                      go_upto_region 32 with fail
                      refine Flow.seqT_head (E := fun u v => Below u.heap.size u v) 4 [(some 112, []), (some 113, []), (some 114, []), (some 115, [0, 1, 2]), (none, [3, 3, 0, 1, 2, 3]), (some 3, [4, 0, 1, 2, 3, 4])] (fun iQ vQ wQ => match iQ with | 0 => vQ = (.agg #[.int .i64 kd, .int .i64 cm, .int .i64 0, .int .i64 0, .int .i64 0, .slice none 0 0, .bool fb, .int .i64 0, .int .i64 0, .slice none 0 0]) | 1 => vQ = (.agg #[.int .i64 (nn k l2 0), .int .i64 (nn k l2 1), .int .i64 (nn k l2 2)]) | 2 => vQ = (.slice none 0 0) | 3 => vQ = (.agg #[.int .i64 y.kind, .int .i64 y.cmd, .int .i64 y.zone, .int .i64 y.at_, .int .i64 y.n, .slice Ad y.data.length cd, .bool y.fua, .int .i64 y.m, .int .i64 y.k, .slice Ak y.keep.length ck]) | _ => True) rfl (by decide) (by kernel_rfl) (Below.refl _ _) (fun _ _ _ h k => h.trans (k.mono h.size)) (fun _ _ _ _ h _ => h) ?_ ?_
                      · refine ⟨?_, ?_, ?_, ?_, trivial⟩
                        · intro a w' hx hu hd K hK; have e11 : a.tmps.getD 11 undef = (.pointer (some ⟨g12, 0, none⟩)) := hu 11 rfl; exact Flow.run1 rfl (ldrow rfl e11 (lies_block (blk_below HKc3_23_54.out hx)) Tryd.underlying56 rfl size56) (hK _ _ (Below.refl _ _) rfl)
                        · intro a w' hx hu hd K hK; have e13 : a.tmps.getD 13 undef = (.pointer (some ⟨g25, 0, none⟩)) := hu 13 rfl; exact Flow.run1 rfl (ldrow rfl e13 (lies_block (blk_below HKA_37_38_53.out hx)) Tryd.underlying104 rfl size104) (hK _ _ (Below.refl _ _) rfl)
                        · intro a w' hx hu hd K hK; have e17 : a.tmps.getD 17 undef = (.slice none 0 0) := hu 17 rfl; exact Flow.run1 rfl (Flow.r_move rfl e17) (hK _ _ (Below.refl _ _) rfl)
                        · intro a w' hx hu hd K hK; have e112 := Flow.got (hd 0 rfl) 112 rfl; have e113 := Flow.got (hd 1 rfl) 113 rfl; have e114 := Flow.got (hd 2 rfl) 114 rfl; refine Flow.want rfl ?_; refine Flow.val_call rfl Tryd.func53 (by kernel_rfl) rfl (by first | (simp only [List.map_toArray, List.map_cons, List.map_nil, Act.eval, e112, e113, e114]; done) | (simp only [List.map_toArray, List.map_cons, List.map_nil, Act.eval, e112, e113, e114]; rfl)) (fill_at HFC.out w') ?_; rintro e w2 ⟨rfl, hb2⟩; exact ⟨_, rfl, hK _ _ hb2 (by rfl)⟩
                      intro vs W55 hb55 hT
                      have v0 := Flow.eqn (hT 0 (by decide))
                      have v1 := Flow.eqn (hT 1 (by decide))
                      have v2 := Flow.eqn (hT 2 (by decide))
                      have v3 := Flow.eqn (hT 3 (by decide))
                      simp only [Flow.putsT, v0, v1, v2, v3, Act.put, List.setIfInBounds_toArray, List.set_cons_zero, List.set_cons_succ, List.drop_succ_cons, List.drop_zero, List.take_succ_cons, List.take_zero]
                      clear hT v0 v1 v2 v3
                      have HB55 := Aside0.mk (below_step HB54.out hb55)
                      have HRD_55 := Aside0.mk (Kd.R_below HRD.out hb55)
                      have HRK_55 := Aside0.mk (Kd.R_below HRK.out hb55)
                      have HKA_37_38_53_55 := Aside0.mk (blk_below HKA_37_38_53.out hb55)
                      have Kg1_2_3_4_24_54_55 := Aside0.mk (blk_below Kg1_2_3_4_24_54.out hb55)
                      have HKc3_23_54_55 := Aside0.mk (blk_below HKc3_23_54.out hb55)
                      clear hb55
                      refine Cells.store_whole rfl rfl 56 _ _ rfl g1 [.int .i64 y.kind, .int .i64 y.cmd, .int .i64 y.zone, .int .i64 y.at_, .int .i64 y.n, .slice Ad y.data.length cd, .bool y.fua, .int .i64 y.m, .int .i64 y.k, .slice Ak y.keep.length ck] #[.int .i64 0, .int .i64 0, .int .i64 0, .int .i64 0, .int .i64 0, .slice none 0 0, .bool false, .int .i64 0, .int .i64 0, .slice none 0 0] rfl rfl Kg1_2_3_4_24_54_55.out rfl size56 rfl ?_
                      intro W56 hk56 hf56 hb56
                      have HRD_56 := Aside0.mk (R_far HRD_55.out Kg1_2_3_4_24_54_55.out (by decide) hf56)
                      have HRK_56 := Aside0.mk (R_far HRK_55.out Kg1_2_3_4_24_54_55.out (by decide) hf56)
                      have HB56 := Aside0.mk (HB55.out.trans (hb56 _ Gg1.out))
                      have Kg1_56 := Aside0.mk hk56
                      clear hk56 hf56 hb56
                      refine Flow.seqL (E := fun u v => Below u.heap.size u v) 5 1 [(some 112, []), (some 113, []), (some 114, []), (some 115, [0, 1, 2]), (none, [3, 3, 0, 1, 2, 3]), (some 3, [4, 0, 1, 2, 3, 4])] (fun iQ vQ wQ => match iQ with | 5 => vQ = (.bool true) | _ => True) rfl (by decide) (by kernel_rfl) (Below.refl _ _) (fun _ _ _ h k => h.trans (k.mono h.size)) (fun _ _ _ _ h _ => h) ?_ ?_
                      · refine ⟨?_, trivial⟩
                        · intro a w' hx hu hd K hK; exact Flow.run1 rfl (Flow.r_assign rfl rfl) (hK _ _ (Below.refl _ _) rfl)
                      intro vs W57 hb57 hT
                      have v5 := Flow.eqn (hT 5 (by decide) (by decide))
                      simp only [Flow.putsT, v5, Act.put, List.setIfInBounds_toArray, List.set_cons_zero, List.set_cons_succ, List.drop_succ_cons, List.drop_zero, List.take_succ_cons, List.take_zero]
                      clear hT v5
                      have HB57 := Aside0.mk (below_step HB56.out hb57)
                      have HRD_57 := Aside0.mk (Kd.R_below HRD_56.out hb57)
                      have HRK_57 := Aside0.mk (Kd.R_below HRK_56.out hb57)
                      have Kg1_56_57 := Aside0.mk (blk_below Kg1_56.out hb57)
                      clear hb57
                      go_wp2_with fail
                      exact bodyPost_ret (results_ct Tryd.results29 _ _ g1 56 _ _ _ rfl Kg1_56_57.out Tryd.underlying56 rfl size56) rfl ⟨.slice Ad y.data.length cd, .slice Ak y.keep.length ck, rfl, HRD_57.out, HRK_57.out, HB57.out⟩
              · have hq2 : (n2 : Int) ≠ nd := by omega
                go_upto_region 16 with fail
                refine Flow.seqT (E := fun u v => Below u.heap.size u v) [(some 73, []), (some 74, [0]), (some 75, []), (some 76, [1, 2])] (fun iQ vQ wQ => match iQ with | 0 => vQ = (.slice (some ad) n2 c1) | 1 => vQ = (.int .i64 n2) | 2 => vQ = (.int .i64 nd) | 3 => vQ = (.bool true) | _ => True) rfl (by kernel_rfl) (Below.refl _ _) (fun _ _ _ h k => h.trans (k.mono h.size)) (fun _ _ _ _ h _ => h) ?_ ?_
                · refine ⟨?_, ?_, ?_, ?_, trivial⟩
                  · intro a w' hx hu hd K hK; have e4 : a.tmps.getD 4 undef = (.slice (some ad) n2 c1) := hu 4 rfl; exact Flow.run1 rfl (Flow.r_move rfl e4) (hK _ _ (Below.refl _ _) rfl)
                  · intro a w' hx hu hd K hK; have e73 := Flow.got (hd 0 rfl) 73 rfl; exact Flow.run1 rfl (lenL Tryd.underlying79 rfl e73) (hK _ _ (Below.refl _ _) rfl)
                  · intro a w' hx hu hd K hK; have e12 : a.tmps.getD 12 undef = (.int .i64 nd) := hu 12 rfl; exact Flow.run1 rfl (Flow.r_move rfl e12) (hK _ _ (Below.refl _ _) rfl)
                  · intro a w' hx hu hd K hK; have e74 := Flow.got (hd 1 rfl) 74 rfl; have e75 := Flow.got (hd 2 rfl) 75 rfl; exact Flow.run1 rfl (yes (neq rfl e74 e75) (bne_iff_ne.2 hq2)) (hK _ _ (Below.refl _ _) rfl)
                intro vs W58 hb58 hT
                have v0 := Flow.eqn (hT 0 (by decide))
                have v1 := Flow.eqn (hT 1 (by decide))
                have v2 := Flow.eqn (hT 2 (by decide))
                have v3 := Flow.eqn (hT 3 (by decide))
                simp only [Flow.putsT, v0, v1, v2, v3, Act.put, List.setIfInBounds_toArray, List.set_cons_zero, List.set_cons_succ]
                clear hT v0 v1 v2 v3
                have HB58 := Aside0.mk (below_step HBc3.out hb58)
                have HKc3_58 := Aside0.mk (blk_below HKc3.out hb58)
                clear hb58
                obtain rfl : r = (zA, false) := HPA.out.trans (if_neg (by have := HN2.out; omega))
                have HB59 := Aside0.mk (below_step HB4.out HB58.out)
                have Kg1_2_3_4_59 := Aside0.mk (blk_below Kg1_2_3_4.out HB58.out)
                go_upto_region 17 with fail
                refine Flow.seqT_head (E := fun u v => Below u.heap.size u v) 1 [(some 77, []), (none, [0, 0]), (some 3, [1, 0, 1])] (fun iQ vQ wQ => match iQ with | 0 => vQ = (.agg #[.int .i64 0, .int .i64 0, .int .i64 0, .int .i64 0, .int .i64 0, .slice none 0 0, .bool false, .int .i64 0, .int .i64 0, .slice none 0 0]) | _ => True) rfl (by decide) (by kernel_rfl) (Below.refl _ _) (fun _ _ _ h k => h.trans (k.mono h.size)) (fun _ _ _ _ h _ => h) ?_ ?_
                · refine ⟨?_, trivial⟩
                  · intro a w' hx hu hd K hK; exact Flow.run1 rfl (bldz56 rfl) (hK _ _ (Below.refl _ _) rfl)
                intro vs W60 hb60 hT
                have v0 := Flow.eqn (hT 0 (by decide))
                simp only [Flow.putsT, v0, Act.put, List.setIfInBounds_toArray, List.set_cons_zero, List.set_cons_succ, List.drop_succ_cons, List.drop_zero, List.take_succ_cons, List.take_zero]
                clear hT v0
                have HB60 := Aside0.mk (below_step HB59.out hb60)
                have HKc3_58_60 := Aside0.mk (blk_below HKc3_58.out hb60)
                have Kg1_2_3_4_59_60 := Aside0.mk (blk_below Kg1_2_3_4_59.out hb60)
                clear hb60
                refine Cells.store_whole rfl rfl 56 _ _ rfl g1 [.int .i64 0, .int .i64 0, .int .i64 0, .int .i64 0, .int .i64 0, .slice none 0 0, .bool false, .int .i64 0, .int .i64 0, .slice none 0 0] #[.int .i64 0, .int .i64 0, .int .i64 0, .int .i64 0, .int .i64 0, .slice none 0 0, .bool false, .int .i64 0, .int .i64 0, .slice none 0 0] rfl rfl Kg1_2_3_4_59_60.out rfl size56 rfl ?_
                intro W61 hk61 hf61 hb61
                have HB61 := Aside0.mk (HB60.out.trans (hb61 _ Gg1.out))
                have Kg1_61 := Aside0.mk hk61
                clear hk61 hf61 hb61
                refine Flow.seqL (E := fun u v => Below u.heap.size u v) 2 1 [(some 77, []), (none, [0, 0]), (some 3, [1, 0, 1])] (fun iQ vQ wQ => match iQ with | 2 => vQ = (.bool false) | _ => True) rfl (by decide) (by kernel_rfl) (Below.refl _ _) (fun _ _ _ h k => h.trans (k.mono h.size)) (fun _ _ _ _ h _ => h) ?_ ?_
                · refine ⟨?_, trivial⟩
                  · intro a w' hx hu hd K hK; exact Flow.run1 rfl (Flow.r_assign rfl rfl) (hK _ _ (Below.refl _ _) rfl)
                intro vs W62 hb62 hT
                have v2 := Flow.eqn (hT 2 (by decide) (by decide))
                simp only [Flow.putsT, v2, Act.put, List.setIfInBounds_toArray, List.set_cons_zero, List.set_cons_succ, List.drop_succ_cons, List.drop_zero, List.take_succ_cons, List.take_zero]
                clear hT v2
                have HB62 := Aside0.mk (below_step HB61.out hb62)
                have Kg1_61_62 := Aside0.mk (blk_below Kg1_61.out hb62)
                clear hb62
                go_wp2_with fail
                exact bodyPost_ret (results_ct Tryd.results29 _ _ g1 56 _ _ _ rfl Kg1_61_62.out Tryd.underlying56 rfl size56) rfl ⟨.slice none 0 0, .slice none 0 0, rfl, Kd.R_nil _ _ _ _ _, Kd.R_nil _ _ _ _ _, HB62.out⟩
      · have HNE := Aside0.mk (show ((wd i).toList != w0.toList) = true from bne_iff_ne.2 (fun h => hw (toList_inj h).symm))
        go_upto_region 8 with fail
        refine Flow.seqT (E := fun u v => Below u.heap.size u v) [(some 38, []), (some 39, []), (some 40, [1]), (some 41, [2]), (some 42, [0, 3])] (fun iQ vQ wQ => match iQ with | 0 => vQ = (.string (wd i)) | 1 => vQ = (.slice (some ad) n c1) | 2 => vQ = (.pointer (some (ad.add (0 * 1)))) | 3 => vQ = (.string w0) | 4 => vQ = (.bool true) | _ => True) rfl (by kernel_rfl) (Below.refl _ _) (fun _ _ _ h k => h.trans (k.mono h.size)) (fun _ _ _ _ h _ => h) ?_ ?_
        · refine ⟨?_, ?_, ?_, ?_, ?_, trivial⟩
          · intro a w' hx hu hd K hK; have e6 : a.tmps.getD 6 undef = (.string (wd i)) := hu 6 rfl; exact Flow.run1 rfl (Flow.r_move rfl e6) (hK _ _ (Below.refl _ _) rfl)
          · intro a w' hx hu hd K hK; have e4 : a.tmps.getD 4 undef = (.slice (some ad) n c1) := hu 4 rfl; exact Flow.run1 rfl (Flow.r_move rfl e4) (hK _ _ (Below.refl _ _) rfl)
          · intro a w' hx hu hd K hK; have e39 := Flow.got (hd 1 rfl) 39 rfl; exact Flow.run1 rfl (ix (i := 0) Tryd.underlying79 size9 rfl e39 rfl hn1) (hK _ _ (Below.refl _ _) rfl)
          · intro a w' hx hu hd K hK; have e40 := Flow.got (hd 2 rfl) 40 rfl; exact Flow.run1 rfl (ld rfl e40 (pw_cell_below (below_step HB9.out hx) HC0.out) Tryd.underlying9 rfl) (hK _ _ (Below.refl _ _) rfl)
          · intro a w' hx hu hd K hK; have e38 := Flow.got (hd 0 rfl) 38 rfl; have e41 := Flow.got (hd 3 rfl) 41 rfl; exact Flow.run1 rfl (sneq rfl e38 e41 HNE.out) (hK _ _ (Below.refl _ _) rfl)
        intro vs W63 hb63 hT
        have v0 := Flow.eqn (hT 0 (by decide))
        have v1 := Flow.eqn (hT 1 (by decide))
        have v2 := Flow.eqn (hT 2 (by decide))
        have v3 := Flow.eqn (hT 3 (by decide))
        have v4 := Flow.eqn (hT 4 (by decide))
        simp only [Flow.putsT, v0, v1, v2, v3, v4, Act.put, List.setIfInBounds_toArray, List.set_cons_zero, List.set_cons_succ]
        clear hT v0 v1 v2 v3 v4
        have HB63 := Aside0.mk (below_step HB9.out hb63)
        clear hb63
        go_wp2
        go_roundg (15 - (i + 1))
        case measure => have := HGI.out; omega
        case rel => exact ⟨i + 1, by omega, ⟨rfl⟩, rfl, by go_num, HB63, ⟨fun j hj => by rcases Nat.lt_or_eq_of_le (Nat.lt_succ_iff.1 hj) with h | h; exact HNO.out j h; rw [h]; exact hw⟩⟩
    · have hlt2 : ¬ (i : Int) < 15 := by omega
      go_upto_region 5 with fail
      refine Flow.seqT (E := fun u v => Below u.heap.size u v) [(some 26, []), (some 27, [0])] (fun iQ vQ wQ => match iQ with | 0 => vQ = (.int .i64 i) | 1 => vQ = (.bool false) | _ => True) rfl (by kernel_rfl) (Below.refl _ _) (fun _ _ _ h k => h.trans (k.mono h.size)) (fun _ _ _ _ h _ => h) ?_ ?_
      · refine ⟨?_, ?_, trivial⟩
        · intro a w' hx hu hd K hK; have e5 : a.tmps.getD 5 undef = (.int .i64 i) := hu 5 rfl; exact Flow.run1 rfl (Flow.r_move rfl e5) (hK _ _ (Below.refl _ _) rfl)
        · intro a w' hx hu hd K hK; have e26 := Flow.got (hd 0 rfl) 26 rfl; exact Flow.run1 rfl (no (lss rfl e26 rfl) (decide_eq_false hlt2)) (hK _ _ (Below.refl _ _) rfl)
      intro vs W64 hb64 hT
      have v0 := Flow.eqn (hT 0 (by decide))
      have v1 := Flow.eqn (hT 1 (by decide))
      simp only [Flow.putsT, v0, v1, Act.put, List.setIfInBounds_toArray, List.set_cons_zero, List.set_cons_succ]
      clear hT v0 v1
      have HB64 := Aside0.mk (below_step HBR.out hb64)
      clear hb64
      obtain rfl : r = (zA, false) := HR.out.symm.trans (parse_no HL.out (fun j hj => HNO.out j (by omega)))
      have HB65 := Aside0.mk (below_step HB4.out HB64.out)
      have Kg1_2_3_4_65 := Aside0.mk (blk_below Kg1_2_3_4.out HB64.out)
      go_upto_region 33 with fail
      refine Flow.seqT_head (E := fun u v => Below u.heap.size u v) 1 [(some 116, []), (none, [0, 0]), (some 3, [1, 0, 1])] (fun iQ vQ wQ => match iQ with | 0 => vQ = (.agg #[.int .i64 0, .int .i64 0, .int .i64 0, .int .i64 0, .int .i64 0, .slice none 0 0, .bool false, .int .i64 0, .int .i64 0, .slice none 0 0]) | _ => True) rfl (by decide) (by kernel_rfl) (Below.refl _ _) (fun _ _ _ h k => h.trans (k.mono h.size)) (fun _ _ _ _ h _ => h) ?_ ?_
      · refine ⟨?_, trivial⟩
        · intro a w' hx hu hd K hK; exact Flow.run1 rfl (bldz56 rfl) (hK _ _ (Below.refl _ _) rfl)
      intro vs W66 hb66 hT
      have v0 := Flow.eqn (hT 0 (by decide))
      simp only [Flow.putsT, v0, Act.put, List.setIfInBounds_toArray, List.set_cons_zero, List.set_cons_succ, List.drop_succ_cons, List.drop_zero, List.take_succ_cons, List.take_zero]
      clear hT v0
      have HB66 := Aside0.mk (below_step HB65.out hb66)
      have Kg1_2_3_4_65_66 := Aside0.mk (blk_below Kg1_2_3_4_65.out hb66)
      clear hb66
      refine Cells.store_whole rfl rfl 56 _ _ rfl g1 [.int .i64 0, .int .i64 0, .int .i64 0, .int .i64 0, .int .i64 0, .slice none 0 0, .bool false, .int .i64 0, .int .i64 0, .slice none 0 0] #[.int .i64 0, .int .i64 0, .int .i64 0, .int .i64 0, .int .i64 0, .slice none 0 0, .bool false, .int .i64 0, .int .i64 0, .slice none 0 0] rfl rfl Kg1_2_3_4_65_66.out rfl size56 rfl ?_
      intro W67 hk67 hf67 hb67
      have HB67 := Aside0.mk (HB66.out.trans (hb67 _ Gg1.out))
      have Kg1_67 := Aside0.mk hk67
      clear hk67 hf67 hb67
      refine Flow.seqL (E := fun u v => Below u.heap.size u v) 2 1 [(some 116, []), (none, [0, 0]), (some 3, [1, 0, 1])] (fun iQ vQ wQ => match iQ with | 2 => vQ = (.bool false) | _ => True) rfl (by decide) (by kernel_rfl) (Below.refl _ _) (fun _ _ _ h k => h.trans (k.mono h.size)) (fun _ _ _ _ h _ => h) ?_ ?_
      · refine ⟨?_, trivial⟩
        · intro a w' hx hu hd K hK; exact Flow.run1 rfl (Flow.r_assign rfl rfl) (hK _ _ (Below.refl _ _) rfl)
      intro vs W68 hb68 hT
      have v2 := Flow.eqn (hT 2 (by decide) (by decide))
      simp only [Flow.putsT, v2, Act.put, List.setIfInBounds_toArray, List.set_cons_zero, List.set_cons_succ, List.drop_succ_cons, List.drop_zero, List.take_succ_cons, List.take_zero]
      clear hT v2
      have HB68 := Aside0.mk (below_step HB67.out hb68)
      have Kg1_67_68 := Aside0.mk (blk_below Kg1_67.out hb68)
      clear hb68
      go_wp2_with fail
      exact bodyPost_ret (results_ct Tryd.results29 _ _ g1 56 _ _ _ rfl Kg1_67_68.out Tryd.underlying56 rfl size56) rfl ⟨.slice none 0 0, .slice none 0 0, rfl, Kd.R_nil _ _ _ _ _, Kd.R_nil _ _ _ _ _, HB68.out⟩
end Go.Proofs.YtlhmpmmblnbmbaaDoor.Con
