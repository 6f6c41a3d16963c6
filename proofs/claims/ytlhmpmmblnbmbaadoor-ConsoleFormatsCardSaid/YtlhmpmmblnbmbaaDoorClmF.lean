/- The row of ConsoleFormats: behind any call the law told true, and all that was handed in reads as it did. Written by openrow.py, this work's own program. -/
import Derived.Test.YtlhmpmmblnbmbaaDoorClmF7
import Derived.ChangeArms
import Derived.DataReads
import Derived.Carry
import Derived.ReadAgain
import Derived.Test.YtlhmpmmblnbmbaaDoorRows
import Derived.LaidMore
import Derived.Stop.LaidErr
import Derived.MakeChecks
import Derived.WalkKit
import Derived.ProofKit
import Derived.OpenShut
import Derived.ShutString
import Derived.ChangeOld
import Derived.Below
import Derived.SizedLaws
import Derived.Lay
import Derived.SevenTiedAt
import Derived.Test.YtlhmpmmblnbmbaaDoorCards
import Derived.Test.YtlhmpmmblnbmbaaDoorTie
set_option linter.unusedVariables false
set_option linter.unusedSimpArgs false
namespace Go.Proofs.YtlhmpmmblnbmbaaDoor.Con
open Go.Lib Go.RowKit Go.Proofs.YtlhmpmmblnbmbaaDoor.Ev Go.Proofs.YtlhmpmmblnbmbaaDoor.Ke Go.Proofs.YtlhmpmmblnbmbaaDoor.Cells Go.Proofs.YtlhmpmmblnbmbaaDoor.PConsoleParses Go.Proofs.YtlhmpmmblnbmbaaDoorW.PrintWords Go.Proofs.YtlhmpmmblnbmbaaDoorW.PrintLast Go.Proofs.YtlhmpmmblnbmbaaDoorW.PrintMore WordsPlain NumberPlain
open Go.Proofs.YtlhmpmmblnbmbaaDoor.Rep (POW POW.below I64 itoaB itoa_size wordsB wordsB_one wordsB_snoc wordsB_size hexB hexB_size hexN hexN_len HD B8)
theorem idx_cases (x : A10) : idxI x = -1 ∨ ∃ i : Nat, i < 15 ∧ idxI x = (i : Int) := by
 unfold idxI
 split
 ·next h => exact .inr ⟨x.cmd.toNat, by omega, by omega⟩
 ·split
  ·next h => exact .inr ⟨(x.kind + 7).toNat, by omega, by omega⟩
  ·exact .inl rfl
theorem bP_slice (i : Nat) (bb : Bool) (Ad Ak : Option Addr) (nd cd nk ck : Nat) : ∃ A n c, bP i bb (.slice Ad nd cd) (.slice Ak nk ck) = .slice A n c := by
 unfold bP
 split
 ·split
  ·exact ⟨_, _, _, rfl⟩
  ·exact ⟨_, _, _, rfl⟩
 ·exact ⟨_, _, _, rfl⟩
theorem frm_kd {i : Nat} (hi : i < 15) : (¬ (frm i).1 = 0 → (frm i).1 = 1 → (frm i).2.2.1.length ≤ 1) ∧ (¬ (frm i).1 = 0 → (frm i).2.2.1.length ≤ 2) := (show ∀ i : Fin 15, (¬ (frm i).1 = 0 → (frm i).1 = 1 → (frm i).2.2.1.length ≤ 1) ∧ (¬ (frm i).1 = 0 → (frm i).2.2.1.length ≤ 2) by decide +kernel) ⟨i, hi⟩
/-- Plain's answer as a step; its numbers are those that play a part. -/
theorem fillC_is {x : A10} {i mn : Nat} {kd cm : Int} (hi : i < 15) (h1 : (frm i).2.2.1.length = mn) (h3 : (frm i).1 = kd) (fb : Bool) (A : Option Addr) (n c : Nat) : ∃ z A1 n1 c1 A2 n2 c2, fillC kd cm fb (mz x mn 0) (mz x mn 1) (mz x mn 2) (.slice A n c) = cellsA z (.slice A1 n1 c1) (.slice A2 n2 c2) ∧ (Near z.m → Near z.k → Near z.zone → Near z.at_ → Near z.n → ∀ j, j < mn → Near (n3 x j)) := by
 obtain ⟨f1, f2⟩ := frm_kd hi
 have f3 := (frm_small ⟨i, hi⟩).1
 rw [h1, h3] at f1
 rw [h1, h3] at f2
 have f3 : mn ≤ 3 := h1 ▸ f3
 have mm : ∀ j, j < mn → mz x mn j = n3 x j := fun j hj => if_pos hj
 by_cases k0 : kd = 0
 ·refine ⟨⟨kd, cm, mz x mn 0, mz x mn 1, mz x mn 2, [], fb, 0, 0, []⟩, A, n, c, none, 0, 0, by unfold fillC; rw [if_pos k0]; rfl, fun _ _ a b d j hj => ?_⟩
  rw [← mm j hj]
  match j, hj with
  | 0, _ => exact a
  | 1, _ => exact b
  | 2, _ => exact d
  | j + 3, hj => omega
 ·by_cases k1 : kd = 1
  ·refine ⟨⟨kd, cm, 0, 0, 0, [], fb, 0, mz x mn 0, []⟩, none, 0, 0, A, n, c, by unfold fillC; rw [if_neg k0, if_pos k1]; rfl, fun _ a _ _ _ j hj => ?_⟩
   have := f1 k0 k1
   rw [← mm j hj]
   match j, hj with
   | 0, _ => exact a
   | j + 1, hj => omega
  ·refine ⟨⟨kd, cm, 0, 0, 0, [], fb, mz x mn 0, mz x mn 1, []⟩, none, 0, 0, A, n, c, by unfold fillC; rw [if_neg k0, if_neg k1]; rfl, fun a b _ _ _ j hj => ?_⟩
   have := f2 k0
   rw [← mm j hj]
   match j, hj with
   | 0, _ => exact a
   | 1, _ => exact b
   | j + 2, hj => omega
theorem near_of {n : Int} (h : farI n = false) : Near n := by
 unfold farI at h
 rw [Bool.or_eq_false_iff] at h
 have h1 := of_decide_eq_false h.1
 have h2 := of_decide_eq_false h.2
 exact ⟨by omega, by omega⟩
theorem fmt_ne {x : A10} (hg : GA x) {i mn : Nat} {bb : Bool} (hi : i < 15) : ((wordsB (fmtL x i mn bb)).toList == (⟨#[]⟩ : ByteArray).toList) = false := by
 refine beq_eq_false_iff_ne.2 (fun e => ?_)
 have h1 : (wordsB (fmtL x i mn bb)).size = 0 := by
  have h2 : (wordsB (fmtL x i mn bb)).toList.length = (wordsB (fmtL x i mn bb)).size := by rw [ByteArray.toList_eq]; rfl
  rw [e, ByteArray.toList_eq] at h2
  exact h2.symm
 have h3 := fmt_words hg (mn := mn) (bb := bb) hi
 have h4 : words (wordsB (fmtL x i mn bb)) = [] := by
  unfold words
  rw [h1]; rfl
 rw [h4, fmtL_is] at h3
 cases h3
def u8V (w : World) (v : Value) (d : List Int) : Prop := ∃ A c, v = .slice A d.length c ∧ (Kd.int .u8).C w A d.length d
theorem tw_size (x : A10) (hg : GA x) {nd nk i mn : Nat} {bb : Bool} (hd1 : nd ≤ 1000) (hk1 : nk ≤ 1000) (hnd : x.data.length = nd) (hnk : x.keep.length = nk) (hi : i < 15) (hm : (frm i).2.2.1.length = mn) : (wordsB (fmtL x i mn bb)).size ≤ 1000000 := by
 have hm3 : mn ≤ 3 := hm ▸ (frm_small ⟨i, hi⟩).1
 have hH : ∀ b : List Int, b.length ≤ 1000 → (hexW b).size ≤ 2000 := fun b hb => by
  unfold hexW
  split
  ·exact Nat.le_of_ble_eq_true rfl
  ·rw [hexB_size]; omega
 have hs : ∀ s ∈ fmtL x i mn bb, s.size ≤ 2000 := fun s hs => by
  rw [fmtL_is] at hs
  rcases List.mem_cons.1 hs with rfl | hs
  ·exact Nat.le_trans (wd_size i hi) (by decide)
  ·rcases List.mem_append.1 hs with hs | hs
   ·unfold tailL at hs
    rcases List.mem_append.1 hs with hs | hs
    ·obtain ⟨j, _, rfl⟩ := List.mem_map.1 hs
     exact Nat.le_trans (itoa_size _ (hg.num j)) (by decide)
    ·split at hs
     ·rw [List.mem_singleton.1 hs]
      split
      ·exact hH _ (by omega)
      ·exact hH _ (by omega)
     ·simp at hs
   ·split at hs
    ·rw [List.mem_singleton.1 hs]; decide
    ·simp at hs
 have hl : (fmtL x i mn bb).length ≤ 6 := by
  rw [fmtL_is, List.length_cons, List.length_append, tailL_len]
  split <;> split <;> simp <;> omega
 have := wordsB_size 2000 _ hs
 have h2 : (2000 + 1) * (fmtL x i mn bb).length ≤ 2001 * 6 := Nat.mul_le_mul_left _ hl
 omega
set_option maxHeartbeats 4000000 in
set_option maxRecDepth 100000 in
theorem lawformats_c (x : A10) (hg : GA x) (Ad Ak : Option Addr) (nd cd nk ck : Nat) (hnd : x.data.length = nd) (hnk : x.keep.length = nk) (w : World) (hCd : (Kd.int .u8).C w Ad nd x.data) (hCk : (Kd.int .u8).C w Ak nk x.keep) (hpow : POW w) : Calls Tryd.prog 7 #[.agg #[.int .i64 x.kind, .int .i64 x.cmd, .int .i64 x.zone, .int .i64 x.at_, .int .i64 x.n, .slice Ad nd cd, .bool x.fua, .int .i64 x.m, .int .i64 x.k, .slice Ak nk ck]] w fun e w' => e = .returned (.bool true) ∧ Below w.heap.size w w' := by
 have HG := Aside0.mk hg
 have HND := Aside0.mk hnd
 have HNK := Aside0.mk hnk
 have HCD := Aside0.mk hCd
 have HCK := Aside0.mk hCk
 have HPW := Aside0.mk hpow
 clear hg hnd hnk hCd hCk hpow
 by_cases h1 : (nk : Int) > 200
 ·have H1 := Aside0.mk h1
  clear h1
  go_enter Tryd.func7, Tryd.ntmps7
  go_upto_region 0 with fail
  refine wp_region_lit ?_
  refine ebox (v := (.agg #[.int .i64 x.kind, .int .i64 x.cmd, .int .i64 x.zone, .int .i64 x.at_, .int .i64 x.n, .slice Ad nd cd, .bool x.fua, .int .i64 x.m, .int .i64 x.k, .slice Ak nk ck])) rfl rfl rfl ?_
  intro g1 hg1 W1 hk1 hb1
  have Kg1 := Aside0.mk hk1
  have HB1 := Aside0.mk (hb1)
  clear hb1
  have Gg1 := Aside0.mk (show w.heap.size ≤ g1 by rw [hg1]; exact Nat.le_refl _)
  clear hg1 hk1
  simp only [Act.put, List.setIfInBounds_toArray, List.set_cons_zero, List.set_cons_succ]
  refine Flow.seqL (E := fun u v => Below u.heap.size u v) 1 1 [(some 1, []), (some 2, [])] (fun iQ vQ wQ => match iQ with | 1 => vQ = (.bool false) | _ => True) rfl (by decide) (by kernel_rfl) (Below.refl _ _) (fun _ _ _ h k => h.trans (k.mono h.size)) (fun _ _ _ _ h _ => h) ?_ ?_
  ·refine ⟨?_, trivial⟩
   ·intro a w' hx hu hd K hK; exact Flow.run1 rfl (Flow.r_assign rfl rfl) (hK _ _ (Below.refl _ _) rfl)
  intro vs W2 hb2 hT
  have v1 := Flow.eqn (hT 1 (by decide) (by decide))
  simp only [Flow.putsT, v1, Act.put, List.setIfInBounds_toArray, List.set_cons_zero, List.set_cons_succ, List.drop_succ_cons, List.drop_zero, List.take_succ_cons, List.take_zero]
  clear hT v1
  have HB2 := Aside0.mk (below_step HB1.out hb2)
  have Kg1_2 := Aside0.mk (blk_below Kg1.out hb2)
  clear hb2
  go_upto_region 1 with fail
  refine Flow.seqT (E := fun u v => Below u.heap.size u v) [(some 7, []), (some 8, [0]), (some 9, [1]), (some 10, [2]), (some 11, [3]), (some 12, [4]), (some 13, [5, 4]), (some 14, [6, 4]), (some 15, [7, 4]), (some 16, [8, 4]), (some 17, [4, 9])] (fun iQ vQ wQ => match iQ with | 0 => vQ = (.pointer (some ⟨g1, 9, none⟩)) | 1 => vQ = (.slice Ak nk ck) | 2 => vQ = (.int .i64 nk) | 3 => vQ = (.bool true) | 4 => vQ = (.bool true) | 5 => vQ = undef | 6 => vQ = undef | 7 => vQ = undef | 8 => vQ = undef | 9 => vQ = undef | 10 => vQ = (.bool true) | _ => True) rfl (by kernel_rfl) (Below.refl _ _) (fun _ _ _ h k => h.trans (k.mono h.size)) (fun _ _ _ _ h _ => h) ?_ ?_
  ·refine ⟨?_, ?_, ?_, ?_, ?_, ?_, ?_, ?_, ?_, ?_, ?_, trivial⟩
   ·intro a w' hx hu hd K hK; have e1 : a.tmps.getD 1 undef = (.pointer (some ⟨g1, 0, none⟩)) := hu 1 rfl; exact Flow.run1 rfl (fa rfl e1 (fa56_4 _ _ _)) (hK _ _ (Below.refl _ _) rfl)
   ·intro a w' hx hu hd K hK; have e7 := Flow.got (hd 0 rfl) 7 rfl; exact Flow.run1 rfl (ld rfl e7 ((blk_cell (blk_below Kg1_2.out hx) 9).trans rfl) Tryd.underlying43 rfl) (hK _ _ (Below.refl _ _) rfl)
   ·intro a w' hx hu hd K hK; have e8 := Flow.got (hd 1 rfl) 8 rfl; exact Flow.run1 rfl (lenL Tryd.underlying43 rfl e8) (hK _ _ (Below.refl _ _) rfl)
   ·intro a w' hx hu hd K hK; have e9 := Flow.got (hd 2 rfl) 9 rfl; exact Flow.run1 rfl (yes (gtr rfl e9 rfl) (decide_eq_true H1.out)) (hK _ _ (Below.refl _ _) rfl)
   ·intro a w' hx hu hd K hK; have e10 := Flow.got (hd 3 rfl) 10 rfl; exact Flow.run1 rfl (Flow.r_move rfl e10) (hK _ _ (Below.refl _ _) rfl)
   ·intro a w' hx hu hd K hK; have e11 := Flow.got (hd 4 rfl) 11 rfl; exact Flow.spare (Flow.spare_of (k := 11) rfl e11 rfl) (hK _ _ (Below.refl _ _) rfl)
   ·intro a w' hx hu hd K hK; have e11 := Flow.got (hd 4 rfl) 11 rfl; exact Flow.spare (Flow.spare_of (k := 11) rfl e11 rfl) (hK _ _ (Below.refl _ _) rfl)
   ·intro a w' hx hu hd K hK; have e11 := Flow.got (hd 4 rfl) 11 rfl; exact Flow.spare (Flow.spare_of (k := 11) rfl e11 rfl) (hK _ _ (Below.refl _ _) rfl)
   ·intro a w' hx hu hd K hK; have e11 := Flow.got (hd 4 rfl) 11 rfl; exact Flow.spare (Flow.spare_of (k := 11) rfl e11 rfl) (hK _ _ (Below.refl _ _) rfl)
   ·intro a w' hx hu hd K hK; have e11 := Flow.got (hd 4 rfl) 11 rfl; exact Flow.spare (Flow.spare_of (k := 11) rfl e11 rfl) (hK _ _ (Below.refl _ _) rfl)
   ·intro a w' hx hu hd K hK; have e11 := Flow.got (hd 4 rfl) 11 rfl; have e16 := Flow.got (hd 9 rfl) 16 rfl; exact Flow.run1 rfl (Flow.r_pick rfl e11 rfl) (hK _ _ (Below.refl _ _) rfl)
  intro vs W3 hb3 hT
  have v0 := Flow.eqn (hT 0 (by decide))
  have v1 := Flow.eqn (hT 1 (by decide))
  have v2 := Flow.eqn (hT 2 (by decide))
  have v3 := Flow.eqn (hT 3 (by decide))
  have v4 := Flow.eqn (hT 4 (by decide))
  have v5 := Flow.eqn (hT 5 (by decide))
  have v6 := Flow.eqn (hT 6 (by decide))
  have v7 := Flow.eqn (hT 7 (by decide))
  have v8 := Flow.eqn (hT 8 (by decide))
  have v9 := Flow.eqn (hT 9 (by decide))
  have v10 := Flow.eqn (hT 10 (by decide))
  simp only [Flow.putsT, v0, v1, v2, v3, v4, v5, v6, v7, v8, v9, v10, Act.put, List.setIfInBounds_toArray, List.set_cons_zero, List.set_cons_succ]
  clear hT v0 v1 v2 v3 v4 v5 v6 v7 v8 v9 v10
  have HB3 := Aside0.mk (below_step HB2.out hb3)
  have Kg1_2_3 := Aside0.mk (blk_below Kg1_2.out hb3)
  clear hb3
  go_upto_region 2 with fail
  refine Flow.seqT (E := fun u v => Below u.heap.size u v) [(some 18, []), (some 2, [0, 0, 0])] (fun iQ vQ wQ => match iQ with | 0 => vQ = (.bool true) | 1 => vQ = (.bool true) | _ => True) rfl (by kernel_rfl) (Below.refl _ _) (fun _ _ _ h k => h.trans (k.mono h.size)) (fun _ _ _ _ h _ => h) ?_ ?_
  ·refine ⟨?_, ?_, trivial⟩
   ·intro a w' hx hu hd K hK; refine Flow.want rfl ?_; refine Flow.val_call rfl Tryd.func27 (by kernel_rfl) rfl (by simp only [List.map_toArray, List.map_cons, List.map_nil, Act.eval] <;> rfl) (live_c w') ?_; rintro e w2 ⟨rfl, hb2⟩; exact ⟨_, rfl, hK _ _ hb2 rfl⟩
   ·intro a w' hx hu hd K hK; have e18 := Flow.got (hd 0 rfl) 18 rfl; exact Flow.run1 rfl (Flow.r_assign rfl e18) (hK _ _ (Below.refl _ _) rfl)
  intro vs W4 hb4 hT
  have v0 := Flow.eqn (hT 0 (by decide))
  have v1 := Flow.eqn (hT 1 (by decide))
  simp only [Flow.putsT, v0, v1, Act.put, List.setIfInBounds_toArray, List.set_cons_zero, List.set_cons_succ]
  clear hT v0 v1
  have HB4 := Aside0.mk (below_step HB3.out hb4)
  have Kg1_2_3_4 := Aside0.mk (blk_below Kg1_2_3.out hb4)
  clear hb4
  go_wp2_with fail
  exact bodyPost_ret (results_tmp Tryd.results7 _ _ _) rfl ⟨rfl, HB4.out⟩
 ·have H1 := Aside0.mk h1
  clear h1
  by_cases h2 : (nd : Int) > 200
  ·have H2 := Aside0.mk h2
   clear h2
   go_enter Tryd.func7, Tryd.ntmps7
   go_upto_region 0 with fail
   refine wp_region_lit ?_
   refine ebox (v := (.agg #[.int .i64 x.kind, .int .i64 x.cmd, .int .i64 x.zone, .int .i64 x.at_, .int .i64 x.n, .slice Ad nd cd, .bool x.fua, .int .i64 x.m, .int .i64 x.k, .slice Ak nk ck])) rfl rfl rfl ?_
   intro g5 hg5 W5 hk5 hb5
   have Kg5 := Aside0.mk hk5
   have HB5 := Aside0.mk (hb5)
   clear hb5
   have Gg5 := Aside0.mk (show w.heap.size ≤ g5 by rw [hg5]; exact Nat.le_refl _)
   clear hg5 hk5
   simp only [Act.put, List.setIfInBounds_toArray, List.set_cons_zero, List.set_cons_succ]
   refine Flow.seqL (E := fun u v => Below u.heap.size u v) 1 1 [(some 1, []), (some 2, [])] (fun iQ vQ wQ => match iQ with | 1 => vQ = (.bool false) | _ => True) rfl (by decide) (by kernel_rfl) (Below.refl _ _) (fun _ _ _ h k => h.trans (k.mono h.size)) (fun _ _ _ _ h _ => h) ?_ ?_
   ·refine ⟨?_, trivial⟩
    ·intro a w' hx hu hd K hK; exact Flow.run1 rfl (Flow.r_assign rfl rfl) (hK _ _ (Below.refl _ _) rfl)
   intro vs W6 hb6 hT
   have v1 := Flow.eqn (hT 1 (by decide) (by decide))
   simp only [Flow.putsT, v1, Act.put, List.setIfInBounds_toArray, List.set_cons_zero, List.set_cons_succ, List.drop_succ_cons, List.drop_zero, List.take_succ_cons, List.take_zero]
   clear hT v1
   have HB6 := Aside0.mk (below_step HB5.out hb6)
   have Kg5_6 := Aside0.mk (blk_below Kg5.out hb6)
   clear hb6
   go_upto_region 1 with fail
   refine Flow.seqT (E := fun u v => Below u.heap.size u v) [(some 7, []), (some 8, [0]), (some 9, [1]), (some 10, [2]), (some 11, [3]), (some 12, [4]), (some 13, [5, 4]), (some 14, [6, 4]), (some 15, [7, 4]), (some 16, [8, 4]), (some 17, [4, 9])] (fun iQ vQ wQ => match iQ with | 0 => vQ = (.pointer (some ⟨g5, 9, none⟩)) | 1 => vQ = (.slice Ak nk ck) | 2 => vQ = (.int .i64 nk) | 3 => vQ = (.bool false) | 4 => vQ = (.bool false) | 5 => vQ = (.pointer (some ⟨g5, 1, none⟩)) | 6 => vQ = (.pointer (some ⟨g5, 5, none⟩)) | 7 => vQ = (.slice Ad nd cd) | 8 => vQ = (.int .i64 nd) | 9 => vQ = (.bool true) | 10 => vQ = (.bool true) | _ => True) rfl (by kernel_rfl) (Below.refl _ _) (fun _ _ _ h k => h.trans (k.mono h.size)) (fun _ _ _ _ h _ => h) ?_ ?_
   ·refine ⟨?_, ?_, ?_, ?_, ?_, ?_, ?_, ?_, ?_, ?_, ?_, trivial⟩
    ·intro a w' hx hu hd K hK; have e1 : a.tmps.getD 1 undef = (.pointer (some ⟨g5, 0, none⟩)) := hu 1 rfl; exact Flow.run1 rfl (fa rfl e1 (fa56_4 _ _ _)) (hK _ _ (Below.refl _ _) rfl)
    ·intro a w' hx hu hd K hK; have e7 := Flow.got (hd 0 rfl) 7 rfl; exact Flow.run1 rfl (ld rfl e7 ((blk_cell (blk_below Kg5_6.out hx) 9).trans rfl) Tryd.underlying43 rfl) (hK _ _ (Below.refl _ _) rfl)
    ·intro a w' hx hu hd K hK; have e8 := Flow.got (hd 1 rfl) 8 rfl; exact Flow.run1 rfl (lenL Tryd.underlying43 rfl e8) (hK _ _ (Below.refl _ _) rfl)
    ·intro a w' hx hu hd K hK; have e9 := Flow.got (hd 2 rfl) 9 rfl; exact Flow.run1 rfl (no (gtr rfl e9 rfl) (decide_eq_false H1.out)) (hK _ _ (Below.refl _ _) rfl)
    ·intro a w' hx hu hd K hK; have e10 := Flow.got (hd 3 rfl) 10 rfl; exact Flow.run1 rfl (Flow.r_move rfl e10) (hK _ _ (Below.refl _ _) rfl)
    ·intro a w' hx hu hd K hK; have e1 : a.tmps.getD 1 undef = (.pointer (some ⟨g5, 0, none⟩)) := hu 1 rfl; have e11 := Flow.got (hd 4 rfl) 11 rfl; exact Flow.run1 (Flow.want_of (k := 11) rfl e11) (fa rfl e1 (fa56_1 _ _ _)) (hK _ _ (Below.refl _ _) rfl)
    ·intro a w' hx hu hd K hK; have e12 := Flow.got (hd 5 rfl) 12 rfl; have e11 := Flow.got (hd 4 rfl) 11 rfl; exact Flow.run1 (Flow.want_of (k := 11) rfl e11) (fa rfl e12 (fa54_4 _ _ _)) (hK _ _ (Below.refl _ _) rfl)
    ·intro a w' hx hu hd K hK; have e13 := Flow.got (hd 6 rfl) 13 rfl; have e11 := Flow.got (hd 4 rfl) 11 rfl; exact Flow.run1 (Flow.want_of (k := 11) rfl e11) (ld rfl e13 ((blk_cell (blk_below Kg5_6.out hx) 5).trans rfl) Tryd.underlying43 rfl) (hK _ _ (Below.refl _ _) rfl)
    ·intro a w' hx hu hd K hK; have e14 := Flow.got (hd 7 rfl) 14 rfl; have e11 := Flow.got (hd 4 rfl) 11 rfl; exact Flow.run1 (Flow.want_of (k := 11) rfl e11) (lenL Tryd.underlying43 rfl e14) (hK _ _ (Below.refl _ _) rfl)
    ·intro a w' hx hu hd K hK; have e15 := Flow.got (hd 8 rfl) 15 rfl; have e11 := Flow.got (hd 4 rfl) 11 rfl; exact Flow.run1 (Flow.want_of (k := 11) rfl e11) (yes (gtr rfl e15 rfl) (decide_eq_true H2.out)) (hK _ _ (Below.refl _ _) rfl)
    ·intro a w' hx hu hd K hK; have e11 := Flow.got (hd 4 rfl) 11 rfl; have e16 := Flow.got (hd 9 rfl) 16 rfl; exact Flow.run1 rfl (Flow.r_pick rfl e11 e16) (hK _ _ (Below.refl _ _) rfl)
   intro vs W7 hb7 hT
   have v0 := Flow.eqn (hT 0 (by decide))
   have v1 := Flow.eqn (hT 1 (by decide))
   have v2 := Flow.eqn (hT 2 (by decide))
   have v3 := Flow.eqn (hT 3 (by decide))
   have v4 := Flow.eqn (hT 4 (by decide))
   have v5 := Flow.eqn (hT 5 (by decide))
   have v6 := Flow.eqn (hT 6 (by decide))
   have v7 := Flow.eqn (hT 7 (by decide))
   have v8 := Flow.eqn (hT 8 (by decide))
   have v9 := Flow.eqn (hT 9 (by decide))
   have v10 := Flow.eqn (hT 10 (by decide))
   simp only [Flow.putsT, v0, v1, v2, v3, v4, v5, v6, v7, v8, v9, v10, Act.put, List.setIfInBounds_toArray, List.set_cons_zero, List.set_cons_succ]
   clear hT v0 v1 v2 v3 v4 v5 v6 v7 v8 v9 v10
   have HB7 := Aside0.mk (below_step HB6.out hb7)
   have Kg5_6_7 := Aside0.mk (blk_below Kg5_6.out hb7)
   clear hb7
   go_upto_region 2 with fail
   refine Flow.seqT (E := fun u v => Below u.heap.size u v) [(some 18, []), (some 2, [0, 0, 0])] (fun iQ vQ wQ => match iQ with | 0 => vQ = (.bool true) | 1 => vQ = (.bool true) | _ => True) rfl (by kernel_rfl) (Below.refl _ _) (fun _ _ _ h k => h.trans (k.mono h.size)) (fun _ _ _ _ h _ => h) ?_ ?_
   ·refine ⟨?_, ?_, trivial⟩
    ·intro a w' hx hu hd K hK; refine Flow.want rfl ?_; refine Flow.val_call rfl Tryd.func27 (by kernel_rfl) rfl (by simp only [List.map_toArray, List.map_cons, List.map_nil, Act.eval] <;> rfl) (live_c w') ?_; rintro e w2 ⟨rfl, hb2⟩; exact ⟨_, rfl, hK _ _ hb2 rfl⟩
    ·intro a w' hx hu hd K hK; have e18 := Flow.got (hd 0 rfl) 18 rfl; exact Flow.run1 rfl (Flow.r_assign rfl e18) (hK _ _ (Below.refl _ _) rfl)
   intro vs W8 hb8 hT
   have v0 := Flow.eqn (hT 0 (by decide))
   have v1 := Flow.eqn (hT 1 (by decide))
   simp only [Flow.putsT, v0, v1, Act.put, List.setIfInBounds_toArray, List.set_cons_zero, List.set_cons_succ]
   clear hT v0 v1
   have HB8 := Aside0.mk (below_step HB7.out hb8)
   have Kg5_6_7_8 := Aside0.mk (blk_below Kg5_6_7.out hb8)
   clear hb8
   go_wp2_with fail
   exact bodyPost_ret (results_tmp Tryd.results7 _ _ _) rfl ⟨rfl, HB8.out⟩
  ·have H2 := Aside0.mk h2
   clear h2
   have hd1 : nd ≤ 1000 := by have := H2.out; omega
   have hk1 : nk ≤ 1000 := by have := H1.out; omega
   go_enter Tryd.func7, Tryd.ntmps7
   go_upto_region 0 with fail
   refine wp_region_lit ?_
   refine ebox (v := (.agg #[.int .i64 x.kind, .int .i64 x.cmd, .int .i64 x.zone, .int .i64 x.at_, .int .i64 x.n, .slice Ad nd cd, .bool x.fua, .int .i64 x.m, .int .i64 x.k, .slice Ak nk ck])) rfl rfl rfl ?_
   intro g9 hg9 W9 hk9 hb9
   have Kg9 := Aside0.mk hk9
   have HB9 := Aside0.mk (hb9)
   clear hb9
   have Gg9 := Aside0.mk (show w.heap.size ≤ g9 by rw [hg9]; exact Nat.le_refl _)
   clear hg9 hk9
   simp only [Act.put, List.setIfInBounds_toArray, List.set_cons_zero, List.set_cons_succ]
   refine Flow.seqL (E := fun u v => Below u.heap.size u v) 1 1 [(some 1, []), (some 2, [])] (fun iQ vQ wQ => match iQ with | 1 => vQ = (.bool false) | _ => True) rfl (by decide) (by kernel_rfl) (Below.refl _ _) (fun _ _ _ h k => h.trans (k.mono h.size)) (fun _ _ _ _ h _ => h) ?_ ?_
   ·refine ⟨?_, trivial⟩
    ·intro a w' hx hu hd K hK; exact Flow.run1 rfl (Flow.r_assign rfl rfl) (hK _ _ (Below.refl _ _) rfl)
   intro vs W10 hb10 hT
   have v1 := Flow.eqn (hT 1 (by decide) (by decide))
   simp only [Flow.putsT, v1, Act.put, List.setIfInBounds_toArray, List.set_cons_zero, List.set_cons_succ, List.drop_succ_cons, List.drop_zero, List.take_succ_cons, List.take_zero]
   clear hT v1
   have HB10 := Aside0.mk (below_step HB9.out hb10)
   have Kg9_10 := Aside0.mk (blk_below Kg9.out hb10)
   clear hb10
   go_upto_region 1 with fail
   refine Flow.seqT (E := fun u v => Below u.heap.size u v) [(some 7, []), (some 8, [0]), (some 9, [1]), (some 10, [2]), (some 11, [3]), (some 12, [4]), (some 13, [5, 4]), (some 14, [6, 4]), (some 15, [7, 4]), (some 16, [8, 4]), (some 17, [4, 9])] (fun iQ vQ wQ => match iQ with | 0 => vQ = (.pointer (some ⟨g9, 9, none⟩)) | 1 => vQ = (.slice Ak nk ck) | 2 => vQ = (.int .i64 nk) | 3 => vQ = (.bool false) | 4 => vQ = (.bool false) | 5 => vQ = (.pointer (some ⟨g9, 1, none⟩)) | 6 => vQ = (.pointer (some ⟨g9, 5, none⟩)) | 7 => vQ = (.slice Ad nd cd) | 8 => vQ = (.int .i64 nd) | 9 => vQ = (.bool false) | 10 => vQ = (.bool false) | _ => True) rfl (by kernel_rfl) (Below.refl _ _) (fun _ _ _ h k => h.trans (k.mono h.size)) (fun _ _ _ _ h _ => h) ?_ ?_
   ·refine ⟨?_, ?_, ?_, ?_, ?_, ?_, ?_, ?_, ?_, ?_, ?_, trivial⟩
    ·intro a w' hx hu hd K hK; have e1 : a.tmps.getD 1 undef = (.pointer (some ⟨g9, 0, none⟩)) := hu 1 rfl; exact Flow.run1 rfl (fa rfl e1 (fa56_4 _ _ _)) (hK _ _ (Below.refl _ _) rfl)
    ·intro a w' hx hu hd K hK; have e7 := Flow.got (hd 0 rfl) 7 rfl; exact Flow.run1 rfl (ld rfl e7 ((blk_cell (blk_below Kg9_10.out hx) 9).trans rfl) Tryd.underlying43 rfl) (hK _ _ (Below.refl _ _) rfl)
    ·intro a w' hx hu hd K hK; have e8 := Flow.got (hd 1 rfl) 8 rfl; exact Flow.run1 rfl (lenL Tryd.underlying43 rfl e8) (hK _ _ (Below.refl _ _) rfl)
    ·intro a w' hx hu hd K hK; have e9 := Flow.got (hd 2 rfl) 9 rfl; exact Flow.run1 rfl (no (gtr rfl e9 rfl) (decide_eq_false H1.out)) (hK _ _ (Below.refl _ _) rfl)
    ·intro a w' hx hu hd K hK; have e10 := Flow.got (hd 3 rfl) 10 rfl; exact Flow.run1 rfl (Flow.r_move rfl e10) (hK _ _ (Below.refl _ _) rfl)
    ·intro a w' hx hu hd K hK; have e1 : a.tmps.getD 1 undef = (.pointer (some ⟨g9, 0, none⟩)) := hu 1 rfl; have e11 := Flow.got (hd 4 rfl) 11 rfl; exact Flow.run1 (Flow.want_of (k := 11) rfl e11) (fa rfl e1 (fa56_1 _ _ _)) (hK _ _ (Below.refl _ _) rfl)
    ·intro a w' hx hu hd K hK; have e12 := Flow.got (hd 5 rfl) 12 rfl; have e11 := Flow.got (hd 4 rfl) 11 rfl; exact Flow.run1 (Flow.want_of (k := 11) rfl e11) (fa rfl e12 (fa54_4 _ _ _)) (hK _ _ (Below.refl _ _) rfl)
    ·intro a w' hx hu hd K hK; have e13 := Flow.got (hd 6 rfl) 13 rfl; have e11 := Flow.got (hd 4 rfl) 11 rfl; exact Flow.run1 (Flow.want_of (k := 11) rfl e11) (ld rfl e13 ((blk_cell (blk_below Kg9_10.out hx) 5).trans rfl) Tryd.underlying43 rfl) (hK _ _ (Below.refl _ _) rfl)
    ·intro a w' hx hu hd K hK; have e14 := Flow.got (hd 7 rfl) 14 rfl; have e11 := Flow.got (hd 4 rfl) 11 rfl; exact Flow.run1 (Flow.want_of (k := 11) rfl e11) (lenL Tryd.underlying43 rfl e14) (hK _ _ (Below.refl _ _) rfl)
    ·intro a w' hx hu hd K hK; have e15 := Flow.got (hd 8 rfl) 15 rfl; have e11 := Flow.got (hd 4 rfl) 11 rfl; exact Flow.run1 (Flow.want_of (k := 11) rfl e11) (no (gtr rfl e15 rfl) (decide_eq_false H2.out)) (hK _ _ (Below.refl _ _) rfl)
    ·intro a w' hx hu hd K hK; have e11 := Flow.got (hd 4 rfl) 11 rfl; have e16 := Flow.got (hd 9 rfl) 16 rfl; exact Flow.run1 rfl (Flow.r_pick rfl e11 e16) (hK _ _ (Below.refl _ _) rfl)
   intro vs W11 hb11 hT
   have v0 := Flow.eqn (hT 0 (by decide))
   have v1 := Flow.eqn (hT 1 (by decide))
   have v2 := Flow.eqn (hT 2 (by decide))
   have v3 := Flow.eqn (hT 3 (by decide))
   have v4 := Flow.eqn (hT 4 (by decide))
   have v5 := Flow.eqn (hT 5 (by decide))
   have v6 := Flow.eqn (hT 6 (by decide))
   have v7 := Flow.eqn (hT 7 (by decide))
   have v8 := Flow.eqn (hT 8 (by decide))
   have v9 := Flow.eqn (hT 9 (by decide))
   have v10 := Flow.eqn (hT 10 (by decide))
   simp only [Flow.putsT, v0, v1, v2, v3, v4, v5, v6, v7, v8, v9, v10, Act.put, List.setIfInBounds_toArray, List.set_cons_zero, List.set_cons_succ]
   clear hT v0 v1 v2 v3 v4 v5 v6 v7 v8 v9 v10
   have HB11 := Aside0.mk (below_step HB10.out hb11)
   have Kg9_10_11 := Aside0.mk (blk_below Kg9_10.out hb11)
   clear hb11
   rcases idx_cases x with hix | ⟨i, hi, hix⟩
   ·have HIX := Aside0.mk hix
    clear hix
    go_upto_region 3 with fail
    refine Flow.seqT (E := fun u v => Below u.heap.size u v) [(some 19, []), (some 20, [0]), (some 3, [1, 1, 0, 1])] (fun iQ vQ wQ => match iQ with | 0 => vQ = (.agg #[.int .i64 x.kind, .int .i64 x.cmd, .int .i64 x.zone, .int .i64 x.at_, .int .i64 x.n, .slice Ad nd cd, .bool x.fua, .int .i64 x.m, .int .i64 x.k, .slice Ak nk ck]) | 1 => vQ = (.string ⟨#[]⟩) | 2 => vQ = (.string ⟨#[]⟩) | _ => True) rfl (by kernel_rfl) (Below.refl _ _) (fun _ _ _ h k => h.trans (k.mono h.size)) (fun _ _ _ _ h _ => h) ?_ ?_
    ·refine ⟨?_, ?_, ?_, trivial⟩
     ·intro a w' hx hu hd K hK; have e1 : a.tmps.getD 1 undef = (.pointer (some ⟨g9, 0, none⟩)) := hu 1 rfl; exact Flow.run1 rfl (ldrow rfl e1 (lies_block (blk_below Kg9_10_11.out hx)) Tryd.underlying56 rfl size56) (hK _ _ (Below.refl _ _) rfl)
     ·intro a w' hx hu hd K hK; have e19 := Flow.got (hd 0 rfl) 19 rfl; refine Flow.want rfl ?_; refine Flow.val_call rfl Tryd.func34 (by kernel_rfl) rfl (by simp only [List.map_toArray, List.map_cons, List.map_nil, Act.eval, e19] <;> rfl) (format_none x Ad Ak nd cd nk ck HIX.out w') ?_; rintro e w2 ⟨rfl, hb2⟩; exact ⟨_, rfl, hK _ _ hb2 rfl⟩
     ·intro a w' hx hu hd K hK; have e20 := Flow.got (hd 1 rfl) 20 rfl; exact Flow.run1 rfl (Flow.r_assign rfl e20) (hK _ _ (Below.refl _ _) rfl)
    intro vs W12 hb12 hT
    have v0 := Flow.eqn (hT 0 (by decide))
    have v1 := Flow.eqn (hT 1 (by decide))
    have v2 := Flow.eqn (hT 2 (by decide))
    simp only [Flow.putsT, v0, v1, v2, Act.put, List.setIfInBounds_toArray, List.set_cons_zero, List.set_cons_succ]
    clear hT v0 v1 v2
    have HB12 := Aside0.mk (below_step HB11.out hb12)
    have Kg9_10_11_12 := Aside0.mk (blk_below Kg9_10_11.out hb12)
    clear hb12
    go_upto_region 4 with fail
    refine Flow.seqT (E := fun u v => Below u.heap.size u v) [(some 21, []), (some 22, []), (some 23, [1]), (some 24, [0, 2])] (fun iQ vQ wQ => match iQ with | 0 => vQ = (.string ⟨#[]⟩) | 1 => vQ = (.agg #[.int .i64 x.kind, .int .i64 x.cmd, .int .i64 x.zone, .int .i64 x.at_, .int .i64 x.n, .slice Ad nd cd, .bool x.fua, .int .i64 x.m, .int .i64 x.k, .slice Ak nk ck]) | 2 => vQ = (.string ⟨#[]⟩) | 3 => vQ = (.bool false) | _ => True) rfl (by kernel_rfl) (Below.refl _ _) (fun _ _ _ h k => h.trans (k.mono h.size)) (fun _ _ _ _ h _ => h) ?_ ?_
    ·refine ⟨?_, ?_, ?_, ?_, trivial⟩
     ·intro a w' hx hu hd K hK; have e3 : a.tmps.getD 3 undef = (.string ⟨#[]⟩) := hu 3 rfl; exact Flow.run1 rfl (Flow.r_move rfl e3) (hK _ _ (Below.refl _ _) rfl)
     ·intro a w' hx hu hd K hK; have e1 : a.tmps.getD 1 undef = (.pointer (some ⟨g9, 0, none⟩)) := hu 1 rfl; exact Flow.run1 rfl (ldrow rfl e1 (lies_block (blk_below Kg9_10_11_12.out hx)) Tryd.underlying56 rfl size56) (hK _ _ (Below.refl _ _) rfl)
     ·intro a w' hx hu hd K hK; have e22 := Flow.got (hd 1 rfl) 22 rfl; refine Flow.want rfl ?_; refine Flow.val_call rfl Tryd.func35 (by kernel_rfl) rfl (by simp only [List.map_toArray, List.map_cons, List.map_nil, Act.eval, e22] <;> rfl) (rformat_none x Ad Ak nd cd nk ck HIX.out w') ?_; rintro e w2 ⟨rfl, hb2⟩; exact ⟨_, rfl, hK _ _ hb2 rfl⟩
     ·intro a w' hx hu hd K hK; have e21 := Flow.got (hd 0 rfl) 21 rfl; have e23 := Flow.got (hd 2 rfl) 23 rfl; exact Flow.run1 rfl (sneq rfl e21 e23 (bne_self_eq_false _)) (hK _ _ (Below.refl _ _) rfl)
    intro vs W13 hb13 hT
    have v0 := Flow.eqn (hT 0 (by decide))
    have v1 := Flow.eqn (hT 1 (by decide))
    have v2 := Flow.eqn (hT 2 (by decide))
    have v3 := Flow.eqn (hT 3 (by decide))
    simp only [Flow.putsT, v0, v1, v2, v3, Act.put, List.setIfInBounds_toArray, List.set_cons_zero, List.set_cons_succ]
    clear hT v0 v1 v2 v3
    have HB13 := Aside0.mk (below_step HB12.out hb13)
    have Kg9_10_11_12_13 := Aside0.mk (blk_below Kg9_10_11_12.out hb13)
    clear hb13
    go_upto_region 6 with fail
    refine Flow.seqT_head (E := fun u v => Below u.heap.size u v) 2 [(some 25, []), (some 26, [0]), (some 4, []), (none, [2, 1, 1, 0, 1, 2])] (fun iQ vQ wQ => match iQ with | 0 => vQ = (.agg #[.int .i64 x.kind, .int .i64 x.cmd, .int .i64 x.zone, .int .i64 x.at_, .int .i64 x.n, .slice Ad nd cd, .bool x.fua, .int .i64 x.m, .int .i64 x.k, .slice Ak nk ck]) | 1 => vQ = (.agg #[.int .i64 0, .int .i64 0, .int .i64 0, .int .i64 0, .int .i64 0, .slice none 0 0, .bool false, .int .i64 0, .int .i64 0, .slice none 0 0]) | _ => True) rfl (by decide) (by kernel_rfl) (Below.refl _ _) (fun _ _ _ h k => h.trans (k.mono h.size)) (fun _ _ _ _ h _ => h) ?_ ?_
    ·refine ⟨?_, ?_, trivial⟩
     ·intro a w' hx hu hd K hK; have e1 : a.tmps.getD 1 undef = (.pointer (some ⟨g9, 0, none⟩)) := hu 1 rfl; exact Flow.run1 rfl (ldrow rfl e1 (lies_block (blk_below Kg9_10_11_12_13.out hx)) Tryd.underlying56 rfl size56) (hK _ _ (Below.refl _ _) rfl)
     ·intro a w' hx hu hd K hK; have e25 := Flow.got (hd 0 rfl) 25 rfl; refine Flow.want rfl ?_; refine Flow.val_call rfl Tryd.func36 (by kernel_rfl) rfl (by simp only [List.map_toArray, List.map_cons, List.map_nil, Act.eval, e25] <;> rfl) (rplain_none x Ad Ak nd cd nk ck HIX.out w') ?_; rintro e w2 ⟨rfl, hb2⟩; exact ⟨_, rfl, hK _ _ hb2 rfl⟩
    intro vs W14 hb14 hT
    have v0 := Flow.eqn (hT 0 (by decide))
    have v1 := Flow.eqn (hT 1 (by decide))
    simp only [Flow.putsT, v0, v1, Act.put, List.setIfInBounds_toArray, List.set_cons_zero, List.set_cons_succ, List.drop_succ_cons, List.drop_zero, List.take_succ_cons, List.take_zero]
    clear hT v0 v1
    have HB14 := Aside0.mk (below_step HB13.out hb14)
    have Kg9_10_11_12_13_14 := Aside0.mk (blk_below Kg9_10_11_12_13.out hb14)
    clear hb14
    refine ealloc rfl rfl zero56_is ?_
    intro g15 hg15 W15 hk15 hb15
    have Kg15 := Aside0.mk hk15
    have Ng15_g9 := Aside0.mk (show g9 ≠ g15 by have := (Array.getElem?_eq_some_iff.1 Kg9_10_11_12_13_14.out).1; omega)
    have Ng9_g15 := Aside0.mk (Ne.symm Ng15_g9.out)
    have HB15 := Aside0.mk (below_step HB14.out hb15)
    have Kg9_10_11_12_13_14_15 := Aside0.mk (blk_below Kg9_10_11_12_13_14.out hb15)
    clear hb15
    have Gg15 := Aside0.mk (show w.heap.size ≤ g15 by rw [hg15]; exact HB14.out.size)
    clear hg15 hk15
    simp only [Act.put, List.setIfInBounds_toArray, List.set_cons_zero, List.set_cons_succ]
    refine Cells.store_whole rfl rfl 56 _ _ rfl g15 [.int .i64 0, .int .i64 0, .int .i64 0, .int .i64 0, .int .i64 0, .slice none 0 0, .bool false, .int .i64 0, .int .i64 0, .slice none 0 0] #[.int .i64 0, .int .i64 0, .int .i64 0, .int .i64 0, .int .i64 0, .slice none 0 0, .bool false, .int .i64 0, .int .i64 0, .slice none 0 0] rfl rfl Kg15.out rfl size56 rfl ?_
    intro W16 hk16 hf16 hb16
    have HB16 := Aside0.mk (HB15.out.trans (hb16 _ Gg15.out))
    have Kg9_10_11_12_13_14_15_16 := Aside0.mk ((hf16 _ Ng15_g9.out).trans Kg9_10_11_12_13_14_15.out)
    have Kg15_16 := Aside0.mk hk16
    clear hk16 hf16 hb16
    go_upto_region 7 with fail
    refine Flow.seqT (E := fun u v => Below u.heap.size u v) [(some 27, []), (some 28, [0]), (some 29, [1]), (some 30, [2]), (some 31, [3, 2]), (some 32, [4, 2, 2]), (some 33, [2, 5]), (some 34, [6, 5]), (some 35, [7]), (some 36, [8, 7]), (some 37, [9, 7, 7]), (some 38, [7, 10]), (some 39, [11, 10]), (some 40, [12]), (some 41, [13, 12]), (some 42, [14, 12]), (some 43, [15, 12, 12]), (some 44, [12, 16]), (some 45, [17, 16]), (some 46, [18]), (some 47, [19, 18]), (some 48, [20, 18]), (some 49, [21, 18, 18]), (some 50, [18, 22]), (some 51, [23, 22]), (some 52, [24]), (some 53, [25, 24]), (some 54, [26, 24]), (some 55, [27, 24, 24]), (some 56, [24, 28])] (fun iQ vQ wQ => match iQ with | 0 => vQ = (.string ⟨#[]⟩) | 1 => vQ = (.bool true) | 2 => vQ = (.bool true) | 3 => vQ = undef | 4 => vQ = undef | 5 => vQ = undef | 6 => vQ = (.bool true) | 7 => vQ = (.bool true) | 8 => vQ = undef | 9 => vQ = undef | 10 => vQ = undef | 11 => vQ = (.bool true) | 12 => vQ = (.bool true) | 13 => vQ = undef | 14 => vQ = undef | 15 => vQ = undef | 16 => vQ = undef | 17 => vQ = (.bool true) | 18 => vQ = (.bool true) | 19 => vQ = undef | 20 => vQ = undef | 21 => vQ = undef | 22 => vQ = undef | 23 => vQ = (.bool true) | 24 => vQ = (.bool true) | 25 => vQ = undef | 26 => vQ = undef | 27 => vQ = undef | 28 => vQ = undef | 29 => vQ = (.bool true) | _ => True) rfl (by kernel_rfl) (Below.refl _ _) (fun _ _ _ h k => h.trans (k.mono h.size)) (fun _ _ _ _ h _ => h) ?_ ?_
    ·refine ⟨?_, ?_, ?_, ?_, ?_, ?_, ?_, ?_, ?_, ?_, ?_, ?_, ?_, ?_, ?_, ?_, ?_, ?_, ?_, ?_, ?_, ?_, ?_, ?_, ?_, ?_, ?_, ?_, ?_, ?_, trivial⟩
     ·intro a w' hx hu hd K hK; have e3 : a.tmps.getD 3 undef = (.string ⟨#[]⟩) := hu 3 rfl; exact Flow.run1 rfl (Flow.r_move rfl e3) (hK _ _ (Below.refl _ _) rfl)
     ·intro a w' hx hu hd K hK; have e27 := Flow.got (hd 0 rfl) 27 rfl; exact Flow.run1 rfl (seqb rfl e27 rfl (beq_self_eq_true _)) (hK _ _ (Below.refl _ _) rfl)
     ·intro a w' hx hu hd K hK; have e28 := Flow.got (hd 1 rfl) 28 rfl; exact Flow.run1 rfl (Flow.r_move rfl e28) (hK _ _ (Below.refl _ _) rfl)
     ·intro a w' hx hu hd K hK; have e29 := Flow.got (hd 2 rfl) 29 rfl; exact Flow.spare (Flow.spare_of (k := 29) rfl e29 rfl) (hK _ _ (Below.refl _ _) rfl)
     ·intro a w' hx hu hd K hK; have e29 := Flow.got (hd 2 rfl) 29 rfl; exact Flow.spare (Flow.spare_of (k := 29) rfl e29 rfl) (hK _ _ (Below.refl _ _) rfl)
     ·intro a w' hx hu hd K hK; have e29 := Flow.got (hd 2 rfl) 29 rfl; exact Flow.spare (Flow.spare_of (k := 29) rfl e29 rfl) (hK _ _ (Below.refl _ _) rfl)
     ·intro a w' hx hu hd K hK; have e29 := Flow.got (hd 2 rfl) 29 rfl; have e32 := Flow.got (hd 5 rfl) 32 rfl; exact Flow.run1 rfl (Flow.r_pick rfl e29 rfl) (hK _ _ (Below.refl _ _) rfl)
     ·intro a w' hx hu hd K hK; have e33 := Flow.got (hd 6 rfl) 33 rfl; exact Flow.run1 rfl (Flow.r_move rfl e33) (hK _ _ (Below.refl _ _) rfl)
     ·intro a w' hx hu hd K hK; have e34 := Flow.got (hd 7 rfl) 34 rfl; exact Flow.spare (Flow.spare_of (k := 34) rfl e34 rfl) (hK _ _ (Below.refl _ _) rfl)
     ·intro a w' hx hu hd K hK; have e34 := Flow.got (hd 7 rfl) 34 rfl; exact Flow.spare (Flow.spare_of (k := 34) rfl e34 rfl) (hK _ _ (Below.refl _ _) rfl)
     ·intro a w' hx hu hd K hK; have e34 := Flow.got (hd 7 rfl) 34 rfl; exact Flow.spare (Flow.spare_of (k := 34) rfl e34 rfl) (hK _ _ (Below.refl _ _) rfl)
     ·intro a w' hx hu hd K hK; have e34 := Flow.got (hd 7 rfl) 34 rfl; have e37 := Flow.got (hd 10 rfl) 37 rfl; exact Flow.run1 rfl (Flow.r_pick rfl e34 rfl) (hK _ _ (Below.refl _ _) rfl)
     ·intro a w' hx hu hd K hK; have e38 := Flow.got (hd 11 rfl) 38 rfl; exact Flow.run1 rfl (Flow.r_move rfl e38) (hK _ _ (Below.refl _ _) rfl)
     ·intro a w' hx hu hd K hK; have e39 := Flow.got (hd 12 rfl) 39 rfl; exact Flow.spare (Flow.spare_of (k := 39) rfl e39 rfl) (hK _ _ (Below.refl _ _) rfl)
     ·intro a w' hx hu hd K hK; have e39 := Flow.got (hd 12 rfl) 39 rfl; exact Flow.spare (Flow.spare_of (k := 39) rfl e39 rfl) (hK _ _ (Below.refl _ _) rfl)
     ·intro a w' hx hu hd K hK; have e39 := Flow.got (hd 12 rfl) 39 rfl; exact Flow.spare (Flow.spare_of (k := 39) rfl e39 rfl) (hK _ _ (Below.refl _ _) rfl)
     ·intro a w' hx hu hd K hK; have e39 := Flow.got (hd 12 rfl) 39 rfl; exact Flow.spare (Flow.spare_of (k := 39) rfl e39 rfl) (hK _ _ (Below.refl _ _) rfl)
     ·intro a w' hx hu hd K hK; have e39 := Flow.got (hd 12 rfl) 39 rfl; have e43 := Flow.got (hd 16 rfl) 43 rfl; exact Flow.run1 rfl (Flow.r_pick rfl e39 rfl) (hK _ _ (Below.refl _ _) rfl)
     ·intro a w' hx hu hd K hK; have e44 := Flow.got (hd 17 rfl) 44 rfl; exact Flow.run1 rfl (Flow.r_move rfl e44) (hK _ _ (Below.refl _ _) rfl)
     ·intro a w' hx hu hd K hK; have e45 := Flow.got (hd 18 rfl) 45 rfl; exact Flow.spare (Flow.spare_of (k := 45) rfl e45 rfl) (hK _ _ (Below.refl _ _) rfl)
     ·intro a w' hx hu hd K hK; have e45 := Flow.got (hd 18 rfl) 45 rfl; exact Flow.spare (Flow.spare_of (k := 45) rfl e45 rfl) (hK _ _ (Below.refl _ _) rfl)
     ·intro a w' hx hu hd K hK; have e45 := Flow.got (hd 18 rfl) 45 rfl; exact Flow.spare (Flow.spare_of (k := 45) rfl e45 rfl) (hK _ _ (Below.refl _ _) rfl)
     ·intro a w' hx hu hd K hK; have e45 := Flow.got (hd 18 rfl) 45 rfl; exact Flow.spare (Flow.spare_of (k := 45) rfl e45 rfl) (hK _ _ (Below.refl _ _) rfl)
     ·intro a w' hx hu hd K hK; have e45 := Flow.got (hd 18 rfl) 45 rfl; have e49 := Flow.got (hd 22 rfl) 49 rfl; exact Flow.run1 rfl (Flow.r_pick rfl e45 rfl) (hK _ _ (Below.refl _ _) rfl)
     ·intro a w' hx hu hd K hK; have e50 := Flow.got (hd 23 rfl) 50 rfl; exact Flow.run1 rfl (Flow.r_move rfl e50) (hK _ _ (Below.refl _ _) rfl)
     ·intro a w' hx hu hd K hK; have e51 := Flow.got (hd 24 rfl) 51 rfl; exact Flow.spare (Flow.spare_of (k := 51) rfl e51 rfl) (hK _ _ (Below.refl _ _) rfl)
     ·intro a w' hx hu hd K hK; have e51 := Flow.got (hd 24 rfl) 51 rfl; exact Flow.spare (Flow.spare_of (k := 51) rfl e51 rfl) (hK _ _ (Below.refl _ _) rfl)
     ·intro a w' hx hu hd K hK; have e51 := Flow.got (hd 24 rfl) 51 rfl; exact Flow.spare (Flow.spare_of (k := 51) rfl e51 rfl) (hK _ _ (Below.refl _ _) rfl)
     ·intro a w' hx hu hd K hK; have e51 := Flow.got (hd 24 rfl) 51 rfl; exact Flow.spare (Flow.spare_of (k := 51) rfl e51 rfl) (hK _ _ (Below.refl _ _) rfl)
     ·intro a w' hx hu hd K hK; have e51 := Flow.got (hd 24 rfl) 51 rfl; have e55 := Flow.got (hd 28 rfl) 55 rfl; exact Flow.run1 rfl (Flow.r_pick rfl e51 rfl) (hK _ _ (Below.refl _ _) rfl)
    intro vs W17 hb17 hT
    have v0 := Flow.eqn (hT 0 (by decide))
    have v1 := Flow.eqn (hT 1 (by decide))
    have v2 := Flow.eqn (hT 2 (by decide))
    have v3 := Flow.eqn (hT 3 (by decide))
    have v4 := Flow.eqn (hT 4 (by decide))
    have v5 := Flow.eqn (hT 5 (by decide))
    have v6 := Flow.eqn (hT 6 (by decide))
    have v7 := Flow.eqn (hT 7 (by decide))
    have v8 := Flow.eqn (hT 8 (by decide))
    have v9 := Flow.eqn (hT 9 (by decide))
    have v10 := Flow.eqn (hT 10 (by decide))
    have v11 := Flow.eqn (hT 11 (by decide))
    have v12 := Flow.eqn (hT 12 (by decide))
    have v13 := Flow.eqn (hT 13 (by decide))
    have v14 := Flow.eqn (hT 14 (by decide))
    have v15 := Flow.eqn (hT 15 (by decide))
    have v16 := Flow.eqn (hT 16 (by decide))
    have v17 := Flow.eqn (hT 17 (by decide))
    have v18 := Flow.eqn (hT 18 (by decide))
    have v19 := Flow.eqn (hT 19 (by decide))
    have v20 := Flow.eqn (hT 20 (by decide))
    have v21 := Flow.eqn (hT 21 (by decide))
    have v22 := Flow.eqn (hT 22 (by decide))
    have v23 := Flow.eqn (hT 23 (by decide))
    have v24 := Flow.eqn (hT 24 (by decide))
    have v25 := Flow.eqn (hT 25 (by decide))
    have v26 := Flow.eqn (hT 26 (by decide))
    have v27 := Flow.eqn (hT 27 (by decide))
    have v28 := Flow.eqn (hT 28 (by decide))
    have v29 := Flow.eqn (hT 29 (by decide))
    simp only [Flow.putsT, v0, v1, v2, v3, v4, v5, v6, v7, v8, v9, v10, v11, v12, v13, v14, v15, v16, v17, v18, v19, v20, v21, v22, v23, v24, v25, v26, v27, v28, v29, Act.put, List.setIfInBounds_toArray, List.set_cons_zero, List.set_cons_succ]
    clear hT v0 v1 v2 v3 v4 v5 v6 v7 v8 v9 v10 v11 v12 v13 v14 v15 v16 v17 v18 v19 v20 v21 v22 v23 v24 v25 v26 v27 v28 v29
    have HB17 := Aside0.mk (below_step HB16.out hb17)
    have Kg9_10_11_12_13_14_15_16_17 := Aside0.mk (blk_below Kg9_10_11_12_13_14_15_16.out hb17)
    have Kg15_16_17 := Aside0.mk (blk_below Kg15_16.out hb17)
    clear hb17
    go_upto_region 8 with fail
    refine Flow.seqT (E := fun u v => Below u.heap.size u v) [(some 57, []), (some 2, [0, 0, 0])] (fun iQ vQ wQ => match iQ with | 0 => vQ = (.bool true) | 1 => vQ = (.bool true) | _ => True) rfl (by kernel_rfl) (Below.refl _ _) (fun _ _ _ h k => h.trans (k.mono h.size)) (fun _ _ _ _ h _ => h) ?_ ?_
    ·refine ⟨?_, ?_, trivial⟩
     ·intro a w' hx hu hd K hK; refine Flow.want rfl ?_; refine Flow.val_call rfl Tryd.func27 (by kernel_rfl) rfl (by simp only [List.map_toArray, List.map_cons, List.map_nil, Act.eval] <;> rfl) (live_c w') ?_; rintro e w2 ⟨rfl, hb2⟩; exact ⟨_, rfl, hK _ _ hb2 rfl⟩
     ·intro a w' hx hu hd K hK; have e57 := Flow.got (hd 0 rfl) 57 rfl; exact Flow.run1 rfl (Flow.r_assign rfl e57) (hK _ _ (Below.refl _ _) rfl)
    intro vs W18 hb18 hT
    have v0 := Flow.eqn (hT 0 (by decide))
    have v1 := Flow.eqn (hT 1 (by decide))
    simp only [Flow.putsT, v0, v1, Act.put, List.setIfInBounds_toArray, List.set_cons_zero, List.set_cons_succ]
    clear hT v0 v1
    have HB18 := Aside0.mk (below_step HB17.out hb18)
    have Kg9_10_11_12_13_14_15_16_17_18 := Aside0.mk (blk_below Kg9_10_11_12_13_14_15_16_17.out hb18)
    have Kg15_16_17_18 := Aside0.mk (blk_below Kg15_16_17.out hb18)
    clear hb18
    go_wp2_with fail
    exact bodyPost_ret (results_tmp Tryd.results7 _ _ _) rfl ⟨rfl, HB18.out⟩
   ·have HIX := Aside0.mk hix
    have HI := Aside0.mk hi
    clear hix hi
    obtain ⟨mn, HM⟩ : ∃ q, Aside0 ((frm i).2.2.1.length = q) := ⟨_, ⟨rfl⟩⟩
    obtain ⟨bb, HBB⟩ : ∃ q, Aside0 ((frm i).2.2.2.isSome = q) := ⟨_, ⟨rfl⟩⟩
    obtain ⟨kd, HKD⟩ : ∃ q, Aside0 ((frm i).1 = q) := ⟨_, ⟨rfl⟩⟩
    obtain ⟨cm, HCM⟩ : ∃ q, Aside0 ((frm i).2.1 = q) := ⟨_, ⟨rfl⟩⟩
    obtain ⟨tw, HTW⟩ : ∃ q, Aside0 (wordsB (fmtL x i mn bb) = q) := ⟨_, ⟨rfl⟩⟩
    obtain ⟨Ab, nb, cb, hbp⟩ := bP_slice i bb Ad Ak nd cd nk ck
    obtain ⟨z, A1, n1, c1, A2, n2, c2, hfc, hnear⟩ := fillC_is (x := x) (cm := cm) HI.out HM.out HKD.out (decide (i = 0) && x.fua) Ab nb cb
    rw [← hbp] at hfc
    have HFC := Aside0.mk hfc
    have HNR := Aside0.mk hnear
    clear hfc hnear hbp
    go_upto_region 3 with fail
    refine Flow.seqT (E := fun u v => Below u.heap.size u v) [(some 19, []), (some 20, [0]), (some 3, [1, 1, 0, 1])] (fun iQ vQ wQ => match iQ with | 0 => vQ = (.agg #[.int .i64 x.kind, .int .i64 x.cmd, .int .i64 x.zone, .int .i64 x.at_, .int .i64 x.n, .slice Ad nd cd, .bool x.fua, .int .i64 x.m, .int .i64 x.k, .slice Ak nk ck]) | 1 => vQ = (.string tw) | 2 => vQ = (.string tw) | _ => True) rfl (by kernel_rfl) (Below.refl _ _) (fun _ _ _ h k => h.trans (k.mono h.size)) (fun _ _ _ _ h _ => h) ?_ ?_
    ·refine ⟨?_, ?_, ?_, trivial⟩
     ·intro a w' hx hu hd K hK; have e1 : a.tmps.getD 1 undef = (.pointer (some ⟨g9, 0, none⟩)) := hu 1 rfl; exact Flow.run1 rfl (ldrow rfl e1 (lies_block (blk_below Kg9_10_11.out hx)) Tryd.underlying56 rfl size56) (hK _ _ (Below.refl _ _) rfl)
     ·intro a w' hx hu hd K hK; have e19 := Flow.got (hd 0 rfl) 19 rfl; refine Flow.want rfl ?_; refine Flow.val_call rfl Tryd.func34 (by kernel_rfl) rfl (by simp only [List.map_toArray, List.map_cons, List.map_nil, Act.eval, e19] <;> rfl) (format_c x HG.out Ad Ak nd cd nk ck HND.out HNK.out hd1 hk1 HIX.out HI.out HM.out HBB.out w' (Kd.C_below HCD.out (below_step HB11.out hx)) (Kd.C_below HCK.out (below_step HB11.out hx)) (HPW.out.below (below_step HB11.out hx))) ?_; rintro e w2 ⟨rfl, hb2⟩; rw [HTW.out]; exact ⟨_, rfl, hK _ _ hb2 rfl⟩
     ·intro a w' hx hu hd K hK; have e20 := Flow.got (hd 1 rfl) 20 rfl; exact Flow.run1 rfl (Flow.r_assign rfl e20) (hK _ _ (Below.refl _ _) rfl)
    intro vs W19 hb19 hT
    have v0 := Flow.eqn (hT 0 (by decide))
    have v1 := Flow.eqn (hT 1 (by decide))
    have v2 := Flow.eqn (hT 2 (by decide))
    simp only [Flow.putsT, v0, v1, v2, Act.put, List.setIfInBounds_toArray, List.set_cons_zero, List.set_cons_succ]
    clear hT v0 v1 v2
    have HB19 := Aside0.mk (below_step HB11.out hb19)
    have Kg9_10_11_19 := Aside0.mk (blk_below Kg9_10_11.out hb19)
    clear hb19
    go_upto_region 4 with fail
    refine Flow.seqT (E := fun u v => Below u.heap.size u v) [(some 21, []), (some 22, []), (some 23, [1]), (some 24, [0, 2])] (fun iQ vQ wQ => match iQ with | 0 => vQ = (.string tw) | 1 => vQ = (.agg #[.int .i64 x.kind, .int .i64 x.cmd, .int .i64 x.zone, .int .i64 x.at_, .int .i64 x.n, .slice Ad nd cd, .bool x.fua, .int .i64 x.m, .int .i64 x.k, .slice Ak nk ck]) | 2 => vQ = (.string tw) | 3 => vQ = (.bool false) | _ => True) rfl (by kernel_rfl) (Below.refl _ _) (fun _ _ _ h k => h.trans (k.mono h.size)) (fun _ _ _ _ h _ => h) ?_ ?_
    ·refine ⟨?_, ?_, ?_, ?_, trivial⟩
     ·intro a w' hx hu hd K hK; have e3 : a.tmps.getD 3 undef = (.string tw) := hu 3 rfl; exact Flow.run1 rfl (Flow.r_move rfl e3) (hK _ _ (Below.refl _ _) rfl)
     ·intro a w' hx hu hd K hK; have e1 : a.tmps.getD 1 undef = (.pointer (some ⟨g9, 0, none⟩)) := hu 1 rfl; exact Flow.run1 rfl (ldrow rfl e1 (lies_block (blk_below Kg9_10_11_19.out hx)) Tryd.underlying56 rfl size56) (hK _ _ (Below.refl _ _) rfl)
     ·intro a w' hx hu hd K hK; have e22 := Flow.got (hd 1 rfl) 22 rfl; refine Flow.want rfl ?_; refine Flow.val_call rfl Tryd.func35 (by kernel_rfl) rfl (by simp only [List.map_toArray, List.map_cons, List.map_nil, Act.eval, e22] <;> rfl) (rformat_c x HG.out Ad Ak nd cd nk ck HND.out HNK.out hd1 hk1 HIX.out HI.out HM.out HBB.out w' (Kd.C_below HCD.out (below_step HB19.out hx)) (Kd.C_below HCK.out (below_step HB19.out hx))) ?_; rintro e w2 ⟨rfl, hb2⟩; rw [HTW.out]; exact ⟨_, rfl, hK _ _ hb2 rfl⟩
     ·intro a w' hx hu hd K hK; have e21 := Flow.got (hd 0 rfl) 21 rfl; have e23 := Flow.got (hd 2 rfl) 23 rfl; exact Flow.run1 rfl (sneq rfl e21 e23 (bne_self_eq_false _)) (hK _ _ (Below.refl _ _) rfl)
    intro vs W20 hb20 hT
    have v0 := Flow.eqn (hT 0 (by decide))
    have v1 := Flow.eqn (hT 1 (by decide))
    have v2 := Flow.eqn (hT 2 (by decide))
    have v3 := Flow.eqn (hT 3 (by decide))
    simp only [Flow.putsT, v0, v1, v2, v3, Act.put, List.setIfInBounds_toArray, List.set_cons_zero, List.set_cons_succ]
    clear hT v0 v1 v2 v3
    have HB20 := Aside0.mk (below_step HB19.out hb20)
    have Kg9_10_11_19_20 := Aside0.mk (blk_below Kg9_10_11_19.out hb20)
    clear hb20
    go_upto_region 6 with fail
    refine Flow.seqT_head (E := fun u v => Below u.heap.size u v) 2 [(some 25, []), (some 26, [0]), (some 4, []), (none, [2, 1, 1, 0, 1, 2])] (fun iQ vQ wQ => match iQ with | 0 => vQ = (.agg #[.int .i64 x.kind, .int .i64 x.cmd, .int .i64 x.zone, .int .i64 x.at_, .int .i64 x.n, .slice Ad nd cd, .bool x.fua, .int .i64 x.m, .int .i64 x.k, .slice Ak nk ck]) | 1 => vQ = (.agg #[.int .i64 z.kind, .int .i64 z.cmd, .int .i64 z.zone, .int .i64 z.at_, .int .i64 z.n, .slice A1 n1 c1, .bool z.fua, .int .i64 z.m, .int .i64 z.k, .slice A2 n2 c2]) | _ => True) rfl (by decide) (by kernel_rfl) (Below.refl _ _) (fun _ _ _ h k => h.trans (k.mono h.size)) (fun _ _ _ _ h _ => h) ?_ ?_
    ·refine ⟨?_, ?_, trivial⟩
     ·intro a w' hx hu hd K hK; have e1 : a.tmps.getD 1 undef = (.pointer (some ⟨g9, 0, none⟩)) := hu 1 rfl; exact Flow.run1 rfl (ldrow rfl e1 (lies_block (blk_below Kg9_10_11_19_20.out hx)) Tryd.underlying56 rfl size56) (hK _ _ (Below.refl _ _) rfl)
     ·intro a w' hx hu hd K hK; have e25 := Flow.got (hd 0 rfl) 25 rfl; refine Flow.want rfl ?_; refine Flow.val_call rfl Tryd.func36 (by kernel_rfl) rfl (by simp only [List.map_toArray, List.map_cons, List.map_nil, Act.eval, e25] <;> rfl) (rplain_c x Ad Ak nd cd nk ck HIX.out HI.out HM.out HBB.out HKD.out HCM.out HFC.out w') ?_; rintro e w2 ⟨rfl, hb2⟩; exact ⟨_, rfl, hK _ _ hb2 rfl⟩
    intro vs W21 hb21 hT
    have v0 := Flow.eqn (hT 0 (by decide))
    have v1 := Flow.eqn (hT 1 (by decide))
    simp only [Flow.putsT, v0, v1, Act.put, List.setIfInBounds_toArray, List.set_cons_zero, List.set_cons_succ, List.drop_succ_cons, List.drop_zero, List.take_succ_cons, List.take_zero]
    clear hT v0 v1
    have HB21 := Aside0.mk (below_step HB20.out hb21)
    have Kg9_10_11_19_20_21 := Aside0.mk (blk_below Kg9_10_11_19_20.out hb21)
    clear hb21
    refine ealloc rfl rfl zero56_is ?_
    intro g22 hg22 W22 hk22 hb22
    have Kg22 := Aside0.mk hk22
    have Ng22_g9 := Aside0.mk (show g9 ≠ g22 by have := (Array.getElem?_eq_some_iff.1 Kg9_10_11_19_20_21.out).1; omega)
    have Ng9_g22 := Aside0.mk (Ne.symm Ng22_g9.out)
    have HB22 := Aside0.mk (below_step HB21.out hb22)
    have Kg9_10_11_19_20_21_22 := Aside0.mk (blk_below Kg9_10_11_19_20_21.out hb22)
    clear hb22
    have Gg22 := Aside0.mk (show w.heap.size ≤ g22 by rw [hg22]; exact HB21.out.size)
    clear hg22 hk22
    simp only [Act.put, List.setIfInBounds_toArray, List.set_cons_zero, List.set_cons_succ]
    refine Cells.store_whole rfl rfl 56 _ _ rfl g22 [.int .i64 z.kind, .int .i64 z.cmd, .int .i64 z.zone, .int .i64 z.at_, .int .i64 z.n, .slice A1 n1 c1, .bool z.fua, .int .i64 z.m, .int .i64 z.k, .slice A2 n2 c2] #[.int .i64 0, .int .i64 0, .int .i64 0, .int .i64 0, .int .i64 0, .slice none 0 0, .bool false, .int .i64 0, .int .i64 0, .slice none 0 0] rfl rfl Kg22.out rfl size56 rfl ?_
    intro W23 hk23 hf23 hb23
    have HB23 := Aside0.mk (HB22.out.trans (hb23 _ Gg22.out))
    have Kg9_10_11_19_20_21_22_23 := Aside0.mk ((hf23 _ Ng22_g9.out).trans Kg9_10_11_19_20_21_22.out)
    have Kg22_23 := Aside0.mk hk23
    clear hk23 hf23 hb23
    obtain ⟨bf, HF_m⟩ : ∃ q, Aside0 (farI z.m = q) := ⟨_, ⟨rfl⟩⟩
    cases bf with
    | true =>
     go_upto_region 7 with fail
     refine Flow.seqT (E := fun u v => Below u.heap.size u v) [(some 27, []), (some 28, [0]), (some 29, [1]), (some 30, [2]), (some 31, [3, 2]), (some 32, [4, 2, 2]), (some 33, [2, 5]), (some 34, [6, 5]), (some 35, [7]), (some 36, [8, 7]), (some 37, [9, 7, 7]), (some 38, [7, 10]), (some 39, [11, 10]), (some 40, [12]), (some 41, [13, 12]), (some 42, [14, 12]), (some 43, [15, 12, 12]), (some 44, [12, 16]), (some 45, [17, 16]), (some 46, [18]), (some 47, [19, 18]), (some 48, [20, 18]), (some 49, [21, 18, 18]), (some 50, [18, 22]), (some 51, [23, 22]), (some 52, [24]), (some 53, [25, 24]), (some 54, [26, 24]), (some 55, [27, 24, 24]), (some 56, [24, 28])] (fun iQ vQ wQ => match iQ with | 0 => vQ = (.string tw) | 1 => vQ = (.bool false) | 2 => vQ = (.bool false) | 3 => vQ = (.pointer (some ⟨g22, 7, none⟩)) | 4 => vQ = (.int .i64 z.m) | 5 => vQ = (.bool true) | 6 => vQ = (.bool true) | 7 => vQ = (.bool true) | 8 => vQ = undef | 9 => vQ = undef | 10 => vQ = undef | 11 => vQ = (.bool true) | 12 => vQ = (.bool true) | 13 => vQ = undef | 14 => vQ = undef | 15 => vQ = undef | 16 => vQ = undef | 17 => vQ = (.bool true) | 18 => vQ = (.bool true) | 19 => vQ = undef | 20 => vQ = undef | 21 => vQ = undef | 22 => vQ = undef | 23 => vQ = (.bool true) | 24 => vQ = (.bool true) | 25 => vQ = undef | 26 => vQ = undef | 27 => vQ = undef | 28 => vQ = undef | 29 => vQ = (.bool true) | _ => True) rfl (by kernel_rfl) (Below.refl _ _) (fun _ _ _ h k => h.trans (k.mono h.size)) (fun _ _ _ _ h _ => h) ?_ ?_
     ·refine ⟨?_, ?_, ?_, ?_, ?_, ?_, ?_, ?_, ?_, ?_, ?_, ?_, ?_, ?_, ?_, ?_, ?_, ?_, ?_, ?_, ?_, ?_, ?_, ?_, ?_, ?_, ?_, ?_, ?_, ?_, trivial⟩
      ·intro a w' hx hu hd K hK; have e3 : a.tmps.getD 3 undef = (.string tw) := hu 3 rfl; exact Flow.run1 rfl (Flow.r_move rfl e3) (hK _ _ (Below.refl _ _) rfl)
      ·intro a w' hx hu hd K hK; have e27 := Flow.got (hd 0 rfl) 27 rfl; exact Flow.run1 rfl (seqb rfl e27 rfl (by rw [← HTW.out]; exact fmt_ne HG.out HI.out)) (hK _ _ (Below.refl _ _) rfl)
      ·intro a w' hx hu hd K hK; have e28 := Flow.got (hd 1 rfl) 28 rfl; exact Flow.run1 rfl (Flow.r_move rfl e28) (hK _ _ (Below.refl _ _) rfl)
      ·intro a w' hx hu hd K hK; have e4 : a.tmps.getD 4 undef = (.pointer (some ⟨g22, 0, none⟩)) := hu 4 rfl; have e29 := Flow.got (hd 2 rfl) 29 rfl; exact Flow.run1 (Flow.want_of (k := 29) rfl e29) (fa rfl e4 (fa56_2 _ _ _)) (hK _ _ (Below.refl _ _) rfl)
      ·intro a w' hx hu hd K hK; have e30 := Flow.got (hd 3 rfl) 30 rfl; have e29 := Flow.got (hd 2 rfl) 29 rfl; exact Flow.run1 (Flow.want_of (k := 29) rfl e29) (ld rfl e30 ((blk_cell (blk_below Kg22_23.out hx) 7).trans rfl) Tryd.underlying3 rfl) (hK _ _ (Below.refl _ _) rfl)
      ·intro a w' hx hu hd K hK; have e31 := Flow.got (hd 4 rfl) 31 rfl; have e29 := Flow.got (hd 2 rfl) 29 rfl; refine Flow.want (Flow.want_of (k := 29) rfl e29) ?_; refine Flow.val_call rfl Tryd.func37 (by kernel_rfl) rfl (by simp only [List.map_toArray, List.map_cons, List.map_nil, Act.eval, e31] <;> rfl) (far_c z.m w') ?_; rintro e w2 ⟨rfl, hb2⟩; rw [HF_m.out]; exact ⟨_, rfl, hK _ _ hb2 rfl⟩
      ·intro a w' hx hu hd K hK; have e29 := Flow.got (hd 2 rfl) 29 rfl; have e32 := Flow.got (hd 5 rfl) 32 rfl; exact Flow.run1 rfl (Flow.r_pick rfl e29 e32) (hK _ _ (Below.refl _ _) rfl)
      ·intro a w' hx hu hd K hK; have e33 := Flow.got (hd 6 rfl) 33 rfl; exact Flow.run1 rfl (Flow.r_move rfl e33) (hK _ _ (Below.refl _ _) rfl)
      ·intro a w' hx hu hd K hK; have e34 := Flow.got (hd 7 rfl) 34 rfl; exact Flow.spare (Flow.spare_of (k := 34) rfl e34 rfl) (hK _ _ (Below.refl _ _) rfl)
      ·intro a w' hx hu hd K hK; have e34 := Flow.got (hd 7 rfl) 34 rfl; exact Flow.spare (Flow.spare_of (k := 34) rfl e34 rfl) (hK _ _ (Below.refl _ _) rfl)
      ·intro a w' hx hu hd K hK; have e34 := Flow.got (hd 7 rfl) 34 rfl; exact Flow.spare (Flow.spare_of (k := 34) rfl e34 rfl) (hK _ _ (Below.refl _ _) rfl)
      ·intro a w' hx hu hd K hK; have e34 := Flow.got (hd 7 rfl) 34 rfl; have e37 := Flow.got (hd 10 rfl) 37 rfl; exact Flow.run1 rfl (Flow.r_pick rfl e34 rfl) (hK _ _ (Below.refl _ _) rfl)
      ·intro a w' hx hu hd K hK; have e38 := Flow.got (hd 11 rfl) 38 rfl; exact Flow.run1 rfl (Flow.r_move rfl e38) (hK _ _ (Below.refl _ _) rfl)
      ·intro a w' hx hu hd K hK; have e39 := Flow.got (hd 12 rfl) 39 rfl; exact Flow.spare (Flow.spare_of (k := 39) rfl e39 rfl) (hK _ _ (Below.refl _ _) rfl)
      ·intro a w' hx hu hd K hK; have e39 := Flow.got (hd 12 rfl) 39 rfl; exact Flow.spare (Flow.spare_of (k := 39) rfl e39 rfl) (hK _ _ (Below.refl _ _) rfl)
      ·intro a w' hx hu hd K hK; have e39 := Flow.got (hd 12 rfl) 39 rfl; exact Flow.spare (Flow.spare_of (k := 39) rfl e39 rfl) (hK _ _ (Below.refl _ _) rfl)
      ·intro a w' hx hu hd K hK; have e39 := Flow.got (hd 12 rfl) 39 rfl; exact Flow.spare (Flow.spare_of (k := 39) rfl e39 rfl) (hK _ _ (Below.refl _ _) rfl)
      ·intro a w' hx hu hd K hK; have e39 := Flow.got (hd 12 rfl) 39 rfl; have e43 := Flow.got (hd 16 rfl) 43 rfl; exact Flow.run1 rfl (Flow.r_pick rfl e39 rfl) (hK _ _ (Below.refl _ _) rfl)
      ·intro a w' hx hu hd K hK; have e44 := Flow.got (hd 17 rfl) 44 rfl; exact Flow.run1 rfl (Flow.r_move rfl e44) (hK _ _ (Below.refl _ _) rfl)
      ·intro a w' hx hu hd K hK; have e45 := Flow.got (hd 18 rfl) 45 rfl; exact Flow.spare (Flow.spare_of (k := 45) rfl e45 rfl) (hK _ _ (Below.refl _ _) rfl)
      ·intro a w' hx hu hd K hK; have e45 := Flow.got (hd 18 rfl) 45 rfl; exact Flow.spare (Flow.spare_of (k := 45) rfl e45 rfl) (hK _ _ (Below.refl _ _) rfl)
      ·intro a w' hx hu hd K hK; have e45 := Flow.got (hd 18 rfl) 45 rfl; exact Flow.spare (Flow.spare_of (k := 45) rfl e45 rfl) (hK _ _ (Below.refl _ _) rfl)
      ·intro a w' hx hu hd K hK; have e45 := Flow.got (hd 18 rfl) 45 rfl; exact Flow.spare (Flow.spare_of (k := 45) rfl e45 rfl) (hK _ _ (Below.refl _ _) rfl)
      ·intro a w' hx hu hd K hK; have e45 := Flow.got (hd 18 rfl) 45 rfl; have e49 := Flow.got (hd 22 rfl) 49 rfl; exact Flow.run1 rfl (Flow.r_pick rfl e45 rfl) (hK _ _ (Below.refl _ _) rfl)
      ·intro a w' hx hu hd K hK; have e50 := Flow.got (hd 23 rfl) 50 rfl; exact Flow.run1 rfl (Flow.r_move rfl e50) (hK _ _ (Below.refl _ _) rfl)
      ·intro a w' hx hu hd K hK; have e51 := Flow.got (hd 24 rfl) 51 rfl; exact Flow.spare (Flow.spare_of (k := 51) rfl e51 rfl) (hK _ _ (Below.refl _ _) rfl)
      ·intro a w' hx hu hd K hK; have e51 := Flow.got (hd 24 rfl) 51 rfl; exact Flow.spare (Flow.spare_of (k := 51) rfl e51 rfl) (hK _ _ (Below.refl _ _) rfl)
      ·intro a w' hx hu hd K hK; have e51 := Flow.got (hd 24 rfl) 51 rfl; exact Flow.spare (Flow.spare_of (k := 51) rfl e51 rfl) (hK _ _ (Below.refl _ _) rfl)
      ·intro a w' hx hu hd K hK; have e51 := Flow.got (hd 24 rfl) 51 rfl; exact Flow.spare (Flow.spare_of (k := 51) rfl e51 rfl) (hK _ _ (Below.refl _ _) rfl)
      ·intro a w' hx hu hd K hK; have e51 := Flow.got (hd 24 rfl) 51 rfl; have e55 := Flow.got (hd 28 rfl) 55 rfl; exact Flow.run1 rfl (Flow.r_pick rfl e51 rfl) (hK _ _ (Below.refl _ _) rfl)
     intro vs W24 hb24 hT
     have v0 := Flow.eqn (hT 0 (by decide))
     have v1 := Flow.eqn (hT 1 (by decide))
     have v2 := Flow.eqn (hT 2 (by decide))
     have v3 := Flow.eqn (hT 3 (by decide))
     have v4 := Flow.eqn (hT 4 (by decide))
     have v5 := Flow.eqn (hT 5 (by decide))
     have v6 := Flow.eqn (hT 6 (by decide))
     have v7 := Flow.eqn (hT 7 (by decide))
     have v8 := Flow.eqn (hT 8 (by decide))
     have v9 := Flow.eqn (hT 9 (by decide))
     have v10 := Flow.eqn (hT 10 (by decide))
     have v11 := Flow.eqn (hT 11 (by decide))
     have v12 := Flow.eqn (hT 12 (by decide))
     have v13 := Flow.eqn (hT 13 (by decide))
     have v14 := Flow.eqn (hT 14 (by decide))
     have v15 := Flow.eqn (hT 15 (by decide))
     have v16 := Flow.eqn (hT 16 (by decide))
     have v17 := Flow.eqn (hT 17 (by decide))
     have v18 := Flow.eqn (hT 18 (by decide))
     have v19 := Flow.eqn (hT 19 (by decide))
     have v20 := Flow.eqn (hT 20 (by decide))
     have v21 := Flow.eqn (hT 21 (by decide))
     have v22 := Flow.eqn (hT 22 (by decide))
     have v23 := Flow.eqn (hT 23 (by decide))
     have v24 := Flow.eqn (hT 24 (by decide))
     have v25 := Flow.eqn (hT 25 (by decide))
     have v26 := Flow.eqn (hT 26 (by decide))
     have v27 := Flow.eqn (hT 27 (by decide))
     have v28 := Flow.eqn (hT 28 (by decide))
     have v29 := Flow.eqn (hT 29 (by decide))
     simp only [Flow.putsT, v0, v1, v2, v3, v4, v5, v6, v7, v8, v9, v10, v11, v12, v13, v14, v15, v16, v17, v18, v19, v20, v21, v22, v23, v24, v25, v26, v27, v28, v29, Act.put, List.setIfInBounds_toArray, List.set_cons_zero, List.set_cons_succ]
     clear hT v0 v1 v2 v3 v4 v5 v6 v7 v8 v9 v10 v11 v12 v13 v14 v15 v16 v17 v18 v19 v20 v21 v22 v23 v24 v25 v26 v27 v28 v29
     have HB24 := Aside0.mk (below_step HB23.out hb24)
     have Kg9_10_11_19_20_21_22_23_24 := Aside0.mk (blk_below Kg9_10_11_19_20_21_22_23.out hb24)
     have Kg22_23_24 := Aside0.mk (blk_below Kg22_23.out hb24)
     clear hb24
     go_upto_region 8 with fail
     refine Flow.seqT (E := fun u v => Below u.heap.size u v) [(some 57, []), (some 2, [0, 0, 0])] (fun iQ vQ wQ => match iQ with | 0 => vQ = (.bool true) | 1 => vQ = (.bool true) | _ => True) rfl (by kernel_rfl) (Below.refl _ _) (fun _ _ _ h k => h.trans (k.mono h.size)) (fun _ _ _ _ h _ => h) ?_ ?_
     ·refine ⟨?_, ?_, trivial⟩
      ·intro a w' hx hu hd K hK; refine Flow.want rfl ?_; refine Flow.val_call rfl Tryd.func27 (by kernel_rfl) rfl (by simp only [List.map_toArray, List.map_cons, List.map_nil, Act.eval] <;> rfl) (live_c w') ?_; rintro e w2 ⟨rfl, hb2⟩; exact ⟨_, rfl, hK _ _ hb2 rfl⟩
      ·intro a w' hx hu hd K hK; have e57 := Flow.got (hd 0 rfl) 57 rfl; exact Flow.run1 rfl (Flow.r_assign rfl e57) (hK _ _ (Below.refl _ _) rfl)
     intro vs W25 hb25 hT
     have v0 := Flow.eqn (hT 0 (by decide))
     have v1 := Flow.eqn (hT 1 (by decide))
     simp only [Flow.putsT, v0, v1, Act.put, List.setIfInBounds_toArray, List.set_cons_zero, List.set_cons_succ]
     clear hT v0 v1
     have HB25 := Aside0.mk (below_step HB24.out hb25)
     have Kg9_10_11_19_20_21_22_23_24_25 := Aside0.mk (blk_below Kg9_10_11_19_20_21_22_23_24.out hb25)
     have Kg22_23_24_25 := Aside0.mk (blk_below Kg22_23_24.out hb25)
     clear hb25
     go_wp2_with fail
     exact bodyPost_ret (results_tmp Tryd.results7 _ _ _) rfl ⟨rfl, HB25.out⟩
    | false =>
     obtain ⟨bf, HF_k⟩ : ∃ q, Aside0 (farI z.k = q) := ⟨_, ⟨rfl⟩⟩
     cases bf with
     | true =>
      go_upto_region 7 with fail
      refine Flow.seqT (E := fun u v => Below u.heap.size u v) [(some 27, []), (some 28, [0]), (some 29, [1]), (some 30, [2]), (some 31, [3, 2]), (some 32, [4, 2, 2]), (some 33, [2, 5]), (some 34, [6, 5]), (some 35, [7]), (some 36, [8, 7]), (some 37, [9, 7, 7]), (some 38, [7, 10]), (some 39, [11, 10]), (some 40, [12]), (some 41, [13, 12]), (some 42, [14, 12]), (some 43, [15, 12, 12]), (some 44, [12, 16]), (some 45, [17, 16]), (some 46, [18]), (some 47, [19, 18]), (some 48, [20, 18]), (some 49, [21, 18, 18]), (some 50, [18, 22]), (some 51, [23, 22]), (some 52, [24]), (some 53, [25, 24]), (some 54, [26, 24]), (some 55, [27, 24, 24]), (some 56, [24, 28])] (fun iQ vQ wQ => match iQ with | 0 => vQ = (.string tw) | 1 => vQ = (.bool false) | 2 => vQ = (.bool false) | 3 => vQ = (.pointer (some ⟨g22, 7, none⟩)) | 4 => vQ = (.int .i64 z.m) | 5 => vQ = (.bool false) | 6 => vQ = (.bool false) | 7 => vQ = (.bool false) | 8 => vQ = (.pointer (some ⟨g22, 8, none⟩)) | 9 => vQ = (.int .i64 z.k) | 10 => vQ = (.bool true) | 11 => vQ = (.bool true) | 12 => vQ = (.bool true) | 13 => vQ = undef | 14 => vQ = undef | 15 => vQ = undef | 16 => vQ = undef | 17 => vQ = (.bool true) | 18 => vQ = (.bool true) | 19 => vQ = undef | 20 => vQ = undef | 21 => vQ = undef | 22 => vQ = undef | 23 => vQ = (.bool true) | 24 => vQ = (.bool true) | 25 => vQ = undef | 26 => vQ = undef | 27 => vQ = undef | 28 => vQ = undef | 29 => vQ = (.bool true) | _ => True) rfl (by kernel_rfl) (Below.refl _ _) (fun _ _ _ h k => h.trans (k.mono h.size)) (fun _ _ _ _ h _ => h) ?_ ?_
      ·refine ⟨?_, ?_, ?_, ?_, ?_, ?_, ?_, ?_, ?_, ?_, ?_, ?_, ?_, ?_, ?_, ?_, ?_, ?_, ?_, ?_, ?_, ?_, ?_, ?_, ?_, ?_, ?_, ?_, ?_, ?_, trivial⟩
       ·intro a w' hx hu hd K hK; have e3 : a.tmps.getD 3 undef = (.string tw) := hu 3 rfl; exact Flow.run1 rfl (Flow.r_move rfl e3) (hK _ _ (Below.refl _ _) rfl)
       ·intro a w' hx hu hd K hK; have e27 := Flow.got (hd 0 rfl) 27 rfl; exact Flow.run1 rfl (seqb rfl e27 rfl (by rw [← HTW.out]; exact fmt_ne HG.out HI.out)) (hK _ _ (Below.refl _ _) rfl)
       ·intro a w' hx hu hd K hK; have e28 := Flow.got (hd 1 rfl) 28 rfl; exact Flow.run1 rfl (Flow.r_move rfl e28) (hK _ _ (Below.refl _ _) rfl)
       ·intro a w' hx hu hd K hK; have e4 : a.tmps.getD 4 undef = (.pointer (some ⟨g22, 0, none⟩)) := hu 4 rfl; have e29 := Flow.got (hd 2 rfl) 29 rfl; exact Flow.run1 (Flow.want_of (k := 29) rfl e29) (fa rfl e4 (fa56_2 _ _ _)) (hK _ _ (Below.refl _ _) rfl)
       ·intro a w' hx hu hd K hK; have e30 := Flow.got (hd 3 rfl) 30 rfl; have e29 := Flow.got (hd 2 rfl) 29 rfl; exact Flow.run1 (Flow.want_of (k := 29) rfl e29) (ld rfl e30 ((blk_cell (blk_below Kg22_23.out hx) 7).trans rfl) Tryd.underlying3 rfl) (hK _ _ (Below.refl _ _) rfl)
       ·intro a w' hx hu hd K hK; have e31 := Flow.got (hd 4 rfl) 31 rfl; have e29 := Flow.got (hd 2 rfl) 29 rfl; refine Flow.want (Flow.want_of (k := 29) rfl e29) ?_; refine Flow.val_call rfl Tryd.func37 (by kernel_rfl) rfl (by simp only [List.map_toArray, List.map_cons, List.map_nil, Act.eval, e31] <;> rfl) (far_c z.m w') ?_; rintro e w2 ⟨rfl, hb2⟩; rw [HF_m.out]; exact ⟨_, rfl, hK _ _ hb2 rfl⟩
       ·intro a w' hx hu hd K hK; have e29 := Flow.got (hd 2 rfl) 29 rfl; have e32 := Flow.got (hd 5 rfl) 32 rfl; exact Flow.run1 rfl (Flow.r_pick rfl e29 e32) (hK _ _ (Below.refl _ _) rfl)
       ·intro a w' hx hu hd K hK; have e33 := Flow.got (hd 6 rfl) 33 rfl; exact Flow.run1 rfl (Flow.r_move rfl e33) (hK _ _ (Below.refl _ _) rfl)
       ·intro a w' hx hu hd K hK; have e4 : a.tmps.getD 4 undef = (.pointer (some ⟨g22, 0, none⟩)) := hu 4 rfl; have e34 := Flow.got (hd 7 rfl) 34 rfl; exact Flow.run1 (Flow.want_of (k := 34) rfl e34) (fa rfl e4 (fa56_3 _ _ _)) (hK _ _ (Below.refl _ _) rfl)
       ·intro a w' hx hu hd K hK; have e35 := Flow.got (hd 8 rfl) 35 rfl; have e34 := Flow.got (hd 7 rfl) 34 rfl; exact Flow.run1 (Flow.want_of (k := 34) rfl e34) (ld rfl e35 ((blk_cell (blk_below Kg22_23.out hx) 8).trans rfl) Tryd.underlying3 rfl) (hK _ _ (Below.refl _ _) rfl)
       ·intro a w' hx hu hd K hK; have e36 := Flow.got (hd 9 rfl) 36 rfl; have e34 := Flow.got (hd 7 rfl) 34 rfl; refine Flow.want (Flow.want_of (k := 34) rfl e34) ?_; refine Flow.val_call rfl Tryd.func37 (by kernel_rfl) rfl (by simp only [List.map_toArray, List.map_cons, List.map_nil, Act.eval, e36] <;> rfl) (far_c z.k w') ?_; rintro e w2 ⟨rfl, hb2⟩; rw [HF_k.out]; exact ⟨_, rfl, hK _ _ hb2 rfl⟩
       ·intro a w' hx hu hd K hK; have e34 := Flow.got (hd 7 rfl) 34 rfl; have e37 := Flow.got (hd 10 rfl) 37 rfl; exact Flow.run1 rfl (Flow.r_pick rfl e34 e37) (hK _ _ (Below.refl _ _) rfl)
       ·intro a w' hx hu hd K hK; have e38 := Flow.got (hd 11 rfl) 38 rfl; exact Flow.run1 rfl (Flow.r_move rfl e38) (hK _ _ (Below.refl _ _) rfl)
       ·intro a w' hx hu hd K hK; have e39 := Flow.got (hd 12 rfl) 39 rfl; exact Flow.spare (Flow.spare_of (k := 39) rfl e39 rfl) (hK _ _ (Below.refl _ _) rfl)
       ·intro a w' hx hu hd K hK; have e39 := Flow.got (hd 12 rfl) 39 rfl; exact Flow.spare (Flow.spare_of (k := 39) rfl e39 rfl) (hK _ _ (Below.refl _ _) rfl)
       ·intro a w' hx hu hd K hK; have e39 := Flow.got (hd 12 rfl) 39 rfl; exact Flow.spare (Flow.spare_of (k := 39) rfl e39 rfl) (hK _ _ (Below.refl _ _) rfl)
       ·intro a w' hx hu hd K hK; have e39 := Flow.got (hd 12 rfl) 39 rfl; exact Flow.spare (Flow.spare_of (k := 39) rfl e39 rfl) (hK _ _ (Below.refl _ _) rfl)
       ·intro a w' hx hu hd K hK; have e39 := Flow.got (hd 12 rfl) 39 rfl; have e43 := Flow.got (hd 16 rfl) 43 rfl; exact Flow.run1 rfl (Flow.r_pick rfl e39 rfl) (hK _ _ (Below.refl _ _) rfl)
       ·intro a w' hx hu hd K hK; have e44 := Flow.got (hd 17 rfl) 44 rfl; exact Flow.run1 rfl (Flow.r_move rfl e44) (hK _ _ (Below.refl _ _) rfl)
       ·intro a w' hx hu hd K hK; have e45 := Flow.got (hd 18 rfl) 45 rfl; exact Flow.spare (Flow.spare_of (k := 45) rfl e45 rfl) (hK _ _ (Below.refl _ _) rfl)
       ·intro a w' hx hu hd K hK; have e45 := Flow.got (hd 18 rfl) 45 rfl; exact Flow.spare (Flow.spare_of (k := 45) rfl e45 rfl) (hK _ _ (Below.refl _ _) rfl)
       ·intro a w' hx hu hd K hK; have e45 := Flow.got (hd 18 rfl) 45 rfl; exact Flow.spare (Flow.spare_of (k := 45) rfl e45 rfl) (hK _ _ (Below.refl _ _) rfl)
       ·intro a w' hx hu hd K hK; have e45 := Flow.got (hd 18 rfl) 45 rfl; exact Flow.spare (Flow.spare_of (k := 45) rfl e45 rfl) (hK _ _ (Below.refl _ _) rfl)
       ·intro a w' hx hu hd K hK; have e45 := Flow.got (hd 18 rfl) 45 rfl; have e49 := Flow.got (hd 22 rfl) 49 rfl; exact Flow.run1 rfl (Flow.r_pick rfl e45 rfl) (hK _ _ (Below.refl _ _) rfl)
       ·intro a w' hx hu hd K hK; have e50 := Flow.got (hd 23 rfl) 50 rfl; exact Flow.run1 rfl (Flow.r_move rfl e50) (hK _ _ (Below.refl _ _) rfl)
       ·intro a w' hx hu hd K hK; have e51 := Flow.got (hd 24 rfl) 51 rfl; exact Flow.spare (Flow.spare_of (k := 51) rfl e51 rfl) (hK _ _ (Below.refl _ _) rfl)
       ·intro a w' hx hu hd K hK; have e51 := Flow.got (hd 24 rfl) 51 rfl; exact Flow.spare (Flow.spare_of (k := 51) rfl e51 rfl) (hK _ _ (Below.refl _ _) rfl)
       ·intro a w' hx hu hd K hK; have e51 := Flow.got (hd 24 rfl) 51 rfl; exact Flow.spare (Flow.spare_of (k := 51) rfl e51 rfl) (hK _ _ (Below.refl _ _) rfl)
       ·intro a w' hx hu hd K hK; have e51 := Flow.got (hd 24 rfl) 51 rfl; exact Flow.spare (Flow.spare_of (k := 51) rfl e51 rfl) (hK _ _ (Below.refl _ _) rfl)
       ·intro a w' hx hu hd K hK; have e51 := Flow.got (hd 24 rfl) 51 rfl; have e55 := Flow.got (hd 28 rfl) 55 rfl; exact Flow.run1 rfl (Flow.r_pick rfl e51 rfl) (hK _ _ (Below.refl _ _) rfl)
      intro vs W26 hb26 hT
      have v0 := Flow.eqn (hT 0 (by decide))
      have v1 := Flow.eqn (hT 1 (by decide))
      have v2 := Flow.eqn (hT 2 (by decide))
      have v3 := Flow.eqn (hT 3 (by decide))
      have v4 := Flow.eqn (hT 4 (by decide))
      have v5 := Flow.eqn (hT 5 (by decide))
      have v6 := Flow.eqn (hT 6 (by decide))
      have v7 := Flow.eqn (hT 7 (by decide))
      have v8 := Flow.eqn (hT 8 (by decide))
      have v9 := Flow.eqn (hT 9 (by decide))
      have v10 := Flow.eqn (hT 10 (by decide))
      have v11 := Flow.eqn (hT 11 (by decide))
      have v12 := Flow.eqn (hT 12 (by decide))
      have v13 := Flow.eqn (hT 13 (by decide))
      have v14 := Flow.eqn (hT 14 (by decide))
      have v15 := Flow.eqn (hT 15 (by decide))
      have v16 := Flow.eqn (hT 16 (by decide))
      have v17 := Flow.eqn (hT 17 (by decide))
      have v18 := Flow.eqn (hT 18 (by decide))
      have v19 := Flow.eqn (hT 19 (by decide))
      have v20 := Flow.eqn (hT 20 (by decide))
      have v21 := Flow.eqn (hT 21 (by decide))
      have v22 := Flow.eqn (hT 22 (by decide))
      have v23 := Flow.eqn (hT 23 (by decide))
      have v24 := Flow.eqn (hT 24 (by decide))
      have v25 := Flow.eqn (hT 25 (by decide))
      have v26 := Flow.eqn (hT 26 (by decide))
      have v27 := Flow.eqn (hT 27 (by decide))
      have v28 := Flow.eqn (hT 28 (by decide))
      have v29 := Flow.eqn (hT 29 (by decide))
      simp only [Flow.putsT, v0, v1, v2, v3, v4, v5, v6, v7, v8, v9, v10, v11, v12, v13, v14, v15, v16, v17, v18, v19, v20, v21, v22, v23, v24, v25, v26, v27, v28, v29, Act.put, List.setIfInBounds_toArray, List.set_cons_zero, List.set_cons_succ]
      clear hT v0 v1 v2 v3 v4 v5 v6 v7 v8 v9 v10 v11 v12 v13 v14 v15 v16 v17 v18 v19 v20 v21 v22 v23 v24 v25 v26 v27 v28 v29
      have HB26 := Aside0.mk (below_step HB23.out hb26)
      have Kg9_10_11_19_20_21_22_23_26 := Aside0.mk (blk_below Kg9_10_11_19_20_21_22_23.out hb26)
      have Kg22_23_26 := Aside0.mk (blk_below Kg22_23.out hb26)
      clear hb26
      go_upto_region 8 with fail
      refine Flow.seqT (E := fun u v => Below u.heap.size u v) [(some 57, []), (some 2, [0, 0, 0])] (fun iQ vQ wQ => match iQ with | 0 => vQ = (.bool true) | 1 => vQ = (.bool true) | _ => True) rfl (by kernel_rfl) (Below.refl _ _) (fun _ _ _ h k => h.trans (k.mono h.size)) (fun _ _ _ _ h _ => h) ?_ ?_
      ·refine ⟨?_, ?_, trivial⟩
       ·intro a w' hx hu hd K hK; refine Flow.want rfl ?_; refine Flow.val_call rfl Tryd.func27 (by kernel_rfl) rfl (by simp only [List.map_toArray, List.map_cons, List.map_nil, Act.eval] <;> rfl) (live_c w') ?_; rintro e w2 ⟨rfl, hb2⟩; exact ⟨_, rfl, hK _ _ hb2 rfl⟩
       ·intro a w' hx hu hd K hK; have e57 := Flow.got (hd 0 rfl) 57 rfl; exact Flow.run1 rfl (Flow.r_assign rfl e57) (hK _ _ (Below.refl _ _) rfl)
      intro vs W27 hb27 hT
      have v0 := Flow.eqn (hT 0 (by decide))
      have v1 := Flow.eqn (hT 1 (by decide))
      simp only [Flow.putsT, v0, v1, Act.put, List.setIfInBounds_toArray, List.set_cons_zero, List.set_cons_succ]
      clear hT v0 v1
      have HB27 := Aside0.mk (below_step HB26.out hb27)
      have Kg9_10_11_19_20_21_22_23_26_27 := Aside0.mk (blk_below Kg9_10_11_19_20_21_22_23_26.out hb27)
      have Kg22_23_26_27 := Aside0.mk (blk_below Kg22_23_26.out hb27)
      clear hb27
      go_wp2_with fail
      exact bodyPost_ret (results_tmp Tryd.results7 _ _ _) rfl ⟨rfl, HB27.out⟩
     | false =>
      obtain ⟨bf, HF_zone⟩ : ∃ q, Aside0 (farI z.zone = q) := ⟨_, ⟨rfl⟩⟩
      cases bf with
      | true =>
       go_upto_region 7 with fail
       refine Flow.seqT (E := fun u v => Below u.heap.size u v) [(some 27, []), (some 28, [0]), (some 29, [1]), (some 30, [2]), (some 31, [3, 2]), (some 32, [4, 2, 2]), (some 33, [2, 5]), (some 34, [6, 5]), (some 35, [7]), (some 36, [8, 7]), (some 37, [9, 7, 7]), (some 38, [7, 10]), (some 39, [11, 10]), (some 40, [12]), (some 41, [13, 12]), (some 42, [14, 12]), (some 43, [15, 12, 12]), (some 44, [12, 16]), (some 45, [17, 16]), (some 46, [18]), (some 47, [19, 18]), (some 48, [20, 18]), (some 49, [21, 18, 18]), (some 50, [18, 22]), (some 51, [23, 22]), (some 52, [24]), (some 53, [25, 24]), (some 54, [26, 24]), (some 55, [27, 24, 24]), (some 56, [24, 28])] (fun iQ vQ wQ => match iQ with | 0 => vQ = (.string tw) | 1 => vQ = (.bool false) | 2 => vQ = (.bool false) | 3 => vQ = (.pointer (some ⟨g22, 7, none⟩)) | 4 => vQ = (.int .i64 z.m) | 5 => vQ = (.bool false) | 6 => vQ = (.bool false) | 7 => vQ = (.bool false) | 8 => vQ = (.pointer (some ⟨g22, 8, none⟩)) | 9 => vQ = (.int .i64 z.k) | 10 => vQ = (.bool false) | 11 => vQ = (.bool false) | 12 => vQ = (.bool false) | 13 => vQ = (.pointer (some ⟨g22, 1, none⟩)) | 14 => vQ = (.pointer (some ⟨g22, 2, none⟩)) | 15 => vQ = (.int .i64 z.zone) | 16 => vQ = (.bool true) | 17 => vQ = (.bool true) | 18 => vQ = (.bool true) | 19 => vQ = undef | 20 => vQ = undef | 21 => vQ = undef | 22 => vQ = undef | 23 => vQ = (.bool true) | 24 => vQ = (.bool true) | 25 => vQ = undef | 26 => vQ = undef | 27 => vQ = undef | 28 => vQ = undef | 29 => vQ = (.bool true) | _ => True) rfl (by kernel_rfl) (Below.refl _ _) (fun _ _ _ h k => h.trans (k.mono h.size)) (fun _ _ _ _ h _ => h) ?_ ?_
       ·refine ⟨?_, ?_, ?_, ?_, ?_, ?_, ?_, ?_, ?_, ?_, ?_, ?_, ?_, ?_, ?_, ?_, ?_, ?_, ?_, ?_, ?_, ?_, ?_, ?_, ?_, ?_, ?_, ?_, ?_, ?_, trivial⟩
        ·intro a w' hx hu hd K hK; have e3 : a.tmps.getD 3 undef = (.string tw) := hu 3 rfl; exact Flow.run1 rfl (Flow.r_move rfl e3) (hK _ _ (Below.refl _ _) rfl)
        ·intro a w' hx hu hd K hK; have e27 := Flow.got (hd 0 rfl) 27 rfl; exact Flow.run1 rfl (seqb rfl e27 rfl (by rw [← HTW.out]; exact fmt_ne HG.out HI.out)) (hK _ _ (Below.refl _ _) rfl)
        ·intro a w' hx hu hd K hK; have e28 := Flow.got (hd 1 rfl) 28 rfl; exact Flow.run1 rfl (Flow.r_move rfl e28) (hK _ _ (Below.refl _ _) rfl)
        ·intro a w' hx hu hd K hK; have e4 : a.tmps.getD 4 undef = (.pointer (some ⟨g22, 0, none⟩)) := hu 4 rfl; have e29 := Flow.got (hd 2 rfl) 29 rfl; exact Flow.run1 (Flow.want_of (k := 29) rfl e29) (fa rfl e4 (fa56_2 _ _ _)) (hK _ _ (Below.refl _ _) rfl)
        ·intro a w' hx hu hd K hK; have e30 := Flow.got (hd 3 rfl) 30 rfl; have e29 := Flow.got (hd 2 rfl) 29 rfl; exact Flow.run1 (Flow.want_of (k := 29) rfl e29) (ld rfl e30 ((blk_cell (blk_below Kg22_23.out hx) 7).trans rfl) Tryd.underlying3 rfl) (hK _ _ (Below.refl _ _) rfl)
        ·intro a w' hx hu hd K hK; have e31 := Flow.got (hd 4 rfl) 31 rfl; have e29 := Flow.got (hd 2 rfl) 29 rfl; refine Flow.want (Flow.want_of (k := 29) rfl e29) ?_; refine Flow.val_call rfl Tryd.func37 (by kernel_rfl) rfl (by simp only [List.map_toArray, List.map_cons, List.map_nil, Act.eval, e31] <;> rfl) (far_c z.m w') ?_; rintro e w2 ⟨rfl, hb2⟩; rw [HF_m.out]; exact ⟨_, rfl, hK _ _ hb2 rfl⟩
        ·intro a w' hx hu hd K hK; have e29 := Flow.got (hd 2 rfl) 29 rfl; have e32 := Flow.got (hd 5 rfl) 32 rfl; exact Flow.run1 rfl (Flow.r_pick rfl e29 e32) (hK _ _ (Below.refl _ _) rfl)
        ·intro a w' hx hu hd K hK; have e33 := Flow.got (hd 6 rfl) 33 rfl; exact Flow.run1 rfl (Flow.r_move rfl e33) (hK _ _ (Below.refl _ _) rfl)
        ·intro a w' hx hu hd K hK; have e4 : a.tmps.getD 4 undef = (.pointer (some ⟨g22, 0, none⟩)) := hu 4 rfl; have e34 := Flow.got (hd 7 rfl) 34 rfl; exact Flow.run1 (Flow.want_of (k := 34) rfl e34) (fa rfl e4 (fa56_3 _ _ _)) (hK _ _ (Below.refl _ _) rfl)
        ·intro a w' hx hu hd K hK; have e35 := Flow.got (hd 8 rfl) 35 rfl; have e34 := Flow.got (hd 7 rfl) 34 rfl; exact Flow.run1 (Flow.want_of (k := 34) rfl e34) (ld rfl e35 ((blk_cell (blk_below Kg22_23.out hx) 8).trans rfl) Tryd.underlying3 rfl) (hK _ _ (Below.refl _ _) rfl)
        ·intro a w' hx hu hd K hK; have e36 := Flow.got (hd 9 rfl) 36 rfl; have e34 := Flow.got (hd 7 rfl) 34 rfl; refine Flow.want (Flow.want_of (k := 34) rfl e34) ?_; refine Flow.val_call rfl Tryd.func37 (by kernel_rfl) rfl (by simp only [List.map_toArray, List.map_cons, List.map_nil, Act.eval, e36] <;> rfl) (far_c z.k w') ?_; rintro e w2 ⟨rfl, hb2⟩; rw [HF_k.out]; exact ⟨_, rfl, hK _ _ hb2 rfl⟩
        ·intro a w' hx hu hd K hK; have e34 := Flow.got (hd 7 rfl) 34 rfl; have e37 := Flow.got (hd 10 rfl) 37 rfl; exact Flow.run1 rfl (Flow.r_pick rfl e34 e37) (hK _ _ (Below.refl _ _) rfl)
        ·intro a w' hx hu hd K hK; have e38 := Flow.got (hd 11 rfl) 38 rfl; exact Flow.run1 rfl (Flow.r_move rfl e38) (hK _ _ (Below.refl _ _) rfl)
        ·intro a w' hx hu hd K hK; have e4 : a.tmps.getD 4 undef = (.pointer (some ⟨g22, 0, none⟩)) := hu 4 rfl; have e39 := Flow.got (hd 12 rfl) 39 rfl; exact Flow.run1 (Flow.want_of (k := 39) rfl e39) (fa rfl e4 (fa56_1 _ _ _)) (hK _ _ (Below.refl _ _) rfl)
        ·intro a w' hx hu hd K hK; have e40 := Flow.got (hd 13 rfl) 40 rfl; have e39 := Flow.got (hd 12 rfl) 39 rfl; exact Flow.run1 (Flow.want_of (k := 39) rfl e39) (fa rfl e40 (fa54_1 _ _ _)) (hK _ _ (Below.refl _ _) rfl)
        ·intro a w' hx hu hd K hK; have e41 := Flow.got (hd 14 rfl) 41 rfl; have e39 := Flow.got (hd 12 rfl) 39 rfl; exact Flow.run1 (Flow.want_of (k := 39) rfl e39) (ld rfl e41 ((blk_cell (blk_below Kg22_23.out hx) 2).trans rfl) Tryd.underlying3 rfl) (hK _ _ (Below.refl _ _) rfl)
        ·intro a w' hx hu hd K hK; have e42 := Flow.got (hd 15 rfl) 42 rfl; have e39 := Flow.got (hd 12 rfl) 39 rfl; refine Flow.want (Flow.want_of (k := 39) rfl e39) ?_; refine Flow.val_call rfl Tryd.func37 (by kernel_rfl) rfl (by simp only [List.map_toArray, List.map_cons, List.map_nil, Act.eval, e42] <;> rfl) (far_c z.zone w') ?_; rintro e w2 ⟨rfl, hb2⟩; rw [HF_zone.out]; exact ⟨_, rfl, hK _ _ hb2 rfl⟩
        ·intro a w' hx hu hd K hK; have e39 := Flow.got (hd 12 rfl) 39 rfl; have e43 := Flow.got (hd 16 rfl) 43 rfl; exact Flow.run1 rfl (Flow.r_pick rfl e39 e43) (hK _ _ (Below.refl _ _) rfl)
        ·intro a w' hx hu hd K hK; have e44 := Flow.got (hd 17 rfl) 44 rfl; exact Flow.run1 rfl (Flow.r_move rfl e44) (hK _ _ (Below.refl _ _) rfl)
        ·intro a w' hx hu hd K hK; have e45 := Flow.got (hd 18 rfl) 45 rfl; exact Flow.spare (Flow.spare_of (k := 45) rfl e45 rfl) (hK _ _ (Below.refl _ _) rfl)
        ·intro a w' hx hu hd K hK; have e45 := Flow.got (hd 18 rfl) 45 rfl; exact Flow.spare (Flow.spare_of (k := 45) rfl e45 rfl) (hK _ _ (Below.refl _ _) rfl)
        ·intro a w' hx hu hd K hK; have e45 := Flow.got (hd 18 rfl) 45 rfl; exact Flow.spare (Flow.spare_of (k := 45) rfl e45 rfl) (hK _ _ (Below.refl _ _) rfl)
        ·intro a w' hx hu hd K hK; have e45 := Flow.got (hd 18 rfl) 45 rfl; exact Flow.spare (Flow.spare_of (k := 45) rfl e45 rfl) (hK _ _ (Below.refl _ _) rfl)
        ·intro a w' hx hu hd K hK; have e45 := Flow.got (hd 18 rfl) 45 rfl; have e49 := Flow.got (hd 22 rfl) 49 rfl; exact Flow.run1 rfl (Flow.r_pick rfl e45 rfl) (hK _ _ (Below.refl _ _) rfl)
        ·intro a w' hx hu hd K hK; have e50 := Flow.got (hd 23 rfl) 50 rfl; exact Flow.run1 rfl (Flow.r_move rfl e50) (hK _ _ (Below.refl _ _) rfl)
        ·intro a w' hx hu hd K hK; have e51 := Flow.got (hd 24 rfl) 51 rfl; exact Flow.spare (Flow.spare_of (k := 51) rfl e51 rfl) (hK _ _ (Below.refl _ _) rfl)
        ·intro a w' hx hu hd K hK; have e51 := Flow.got (hd 24 rfl) 51 rfl; exact Flow.spare (Flow.spare_of (k := 51) rfl e51 rfl) (hK _ _ (Below.refl _ _) rfl)
        ·intro a w' hx hu hd K hK; have e51 := Flow.got (hd 24 rfl) 51 rfl; exact Flow.spare (Flow.spare_of (k := 51) rfl e51 rfl) (hK _ _ (Below.refl _ _) rfl)
        ·intro a w' hx hu hd K hK; have e51 := Flow.got (hd 24 rfl) 51 rfl; exact Flow.spare (Flow.spare_of (k := 51) rfl e51 rfl) (hK _ _ (Below.refl _ _) rfl)
        ·intro a w' hx hu hd K hK; have e51 := Flow.got (hd 24 rfl) 51 rfl; have e55 := Flow.got (hd 28 rfl) 55 rfl; exact Flow.run1 rfl (Flow.r_pick rfl e51 rfl) (hK _ _ (Below.refl _ _) rfl)
       intro vs W28 hb28 hT
       have v0 := Flow.eqn (hT 0 (by decide))
       have v1 := Flow.eqn (hT 1 (by decide))
       have v2 := Flow.eqn (hT 2 (by decide))
       have v3 := Flow.eqn (hT 3 (by decide))
       have v4 := Flow.eqn (hT 4 (by decide))
       have v5 := Flow.eqn (hT 5 (by decide))
       have v6 := Flow.eqn (hT 6 (by decide))
       have v7 := Flow.eqn (hT 7 (by decide))
       have v8 := Flow.eqn (hT 8 (by decide))
       have v9 := Flow.eqn (hT 9 (by decide))
       have v10 := Flow.eqn (hT 10 (by decide))
       have v11 := Flow.eqn (hT 11 (by decide))
       have v12 := Flow.eqn (hT 12 (by decide))
       have v13 := Flow.eqn (hT 13 (by decide))
       have v14 := Flow.eqn (hT 14 (by decide))
       have v15 := Flow.eqn (hT 15 (by decide))
       have v16 := Flow.eqn (hT 16 (by decide))
       have v17 := Flow.eqn (hT 17 (by decide))
       have v18 := Flow.eqn (hT 18 (by decide))
       have v19 := Flow.eqn (hT 19 (by decide))
       have v20 := Flow.eqn (hT 20 (by decide))
       have v21 := Flow.eqn (hT 21 (by decide))
       have v22 := Flow.eqn (hT 22 (by decide))
       have v23 := Flow.eqn (hT 23 (by decide))
       have v24 := Flow.eqn (hT 24 (by decide))
       have v25 := Flow.eqn (hT 25 (by decide))
       have v26 := Flow.eqn (hT 26 (by decide))
       have v27 := Flow.eqn (hT 27 (by decide))
       have v28 := Flow.eqn (hT 28 (by decide))
       have v29 := Flow.eqn (hT 29 (by decide))
       simp only [Flow.putsT, v0, v1, v2, v3, v4, v5, v6, v7, v8, v9, v10, v11, v12, v13, v14, v15, v16, v17, v18, v19, v20, v21, v22, v23, v24, v25, v26, v27, v28, v29, Act.put, List.setIfInBounds_toArray, List.set_cons_zero, List.set_cons_succ]
       clear hT v0 v1 v2 v3 v4 v5 v6 v7 v8 v9 v10 v11 v12 v13 v14 v15 v16 v17 v18 v19 v20 v21 v22 v23 v24 v25 v26 v27 v28 v29
       have HB28 := Aside0.mk (below_step HB23.out hb28)
       have Kg9_10_11_19_20_21_22_23_28 := Aside0.mk (blk_below Kg9_10_11_19_20_21_22_23.out hb28)
       have Kg22_23_28 := Aside0.mk (blk_below Kg22_23.out hb28)
       clear hb28
       go_upto_region 8 with fail
       refine Flow.seqT (E := fun u v => Below u.heap.size u v) [(some 57, []), (some 2, [0, 0, 0])] (fun iQ vQ wQ => match iQ with | 0 => vQ = (.bool true) | 1 => vQ = (.bool true) | _ => True) rfl (by kernel_rfl) (Below.refl _ _) (fun _ _ _ h k => h.trans (k.mono h.size)) (fun _ _ _ _ h _ => h) ?_ ?_
       ·refine ⟨?_, ?_, trivial⟩
        ·intro a w' hx hu hd K hK; refine Flow.want rfl ?_; refine Flow.val_call rfl Tryd.func27 (by kernel_rfl) rfl (by simp only [List.map_toArray, List.map_cons, List.map_nil, Act.eval] <;> rfl) (live_c w') ?_; rintro e w2 ⟨rfl, hb2⟩; exact ⟨_, rfl, hK _ _ hb2 rfl⟩
        ·intro a w' hx hu hd K hK; have e57 := Flow.got (hd 0 rfl) 57 rfl; exact Flow.run1 rfl (Flow.r_assign rfl e57) (hK _ _ (Below.refl _ _) rfl)
       intro vs W29 hb29 hT
       have v0 := Flow.eqn (hT 0 (by decide))
       have v1 := Flow.eqn (hT 1 (by decide))
       simp only [Flow.putsT, v0, v1, Act.put, List.setIfInBounds_toArray, List.set_cons_zero, List.set_cons_succ]
       clear hT v0 v1
       have HB29 := Aside0.mk (below_step HB28.out hb29)
       have Kg9_10_11_19_20_21_22_23_28_29 := Aside0.mk (blk_below Kg9_10_11_19_20_21_22_23_28.out hb29)
       have Kg22_23_28_29 := Aside0.mk (blk_below Kg22_23_28.out hb29)
       clear hb29
       go_wp2_with fail
       exact bodyPost_ret (results_tmp Tryd.results7 _ _ _) rfl ⟨rfl, HB29.out⟩
      | false =>
       obtain ⟨bf, HF_at_⟩ : ∃ q, Aside0 (farI z.at_ = q) := ⟨_, ⟨rfl⟩⟩
       cases bf with
       | true =>
        go_upto_region 7 with fail
        refine Flow.seqT (E := fun u v => Below u.heap.size u v) [(some 27, []), (some 28, [0]), (some 29, [1]), (some 30, [2]), (some 31, [3, 2]), (some 32, [4, 2, 2]), (some 33, [2, 5]), (some 34, [6, 5]), (some 35, [7]), (some 36, [8, 7]), (some 37, [9, 7, 7]), (some 38, [7, 10]), (some 39, [11, 10]), (some 40, [12]), (some 41, [13, 12]), (some 42, [14, 12]), (some 43, [15, 12, 12]), (some 44, [12, 16]), (some 45, [17, 16]), (some 46, [18]), (some 47, [19, 18]), (some 48, [20, 18]), (some 49, [21, 18, 18]), (some 50, [18, 22]), (some 51, [23, 22]), (some 52, [24]), (some 53, [25, 24]), (some 54, [26, 24]), (some 55, [27, 24, 24]), (some 56, [24, 28])] (fun iQ vQ wQ => match iQ with | 0 => vQ = (.string tw) | 1 => vQ = (.bool false) | 2 => vQ = (.bool false) | 3 => vQ = (.pointer (some ⟨g22, 7, none⟩)) | 4 => vQ = (.int .i64 z.m) | 5 => vQ = (.bool false) | 6 => vQ = (.bool false) | 7 => vQ = (.bool false) | 8 => vQ = (.pointer (some ⟨g22, 8, none⟩)) | 9 => vQ = (.int .i64 z.k) | 10 => vQ = (.bool false) | 11 => vQ = (.bool false) | 12 => vQ = (.bool false) | 13 => vQ = (.pointer (some ⟨g22, 1, none⟩)) | 14 => vQ = (.pointer (some ⟨g22, 2, none⟩)) | 15 => vQ = (.int .i64 z.zone) | 16 => vQ = (.bool false) | 17 => vQ = (.bool false) | 18 => vQ = (.bool false) | 19 => vQ = (.pointer (some ⟨g22, 1, none⟩)) | 20 => vQ = (.pointer (some ⟨g22, 3, none⟩)) | 21 => vQ = (.int .i64 z.at_) | 22 => vQ = (.bool true) | 23 => vQ = (.bool true) | 24 => vQ = (.bool true) | 25 => vQ = undef | 26 => vQ = undef | 27 => vQ = undef | 28 => vQ = undef | 29 => vQ = (.bool true) | _ => True) rfl (by kernel_rfl) (Below.refl _ _) (fun _ _ _ h k => h.trans (k.mono h.size)) (fun _ _ _ _ h _ => h) ?_ ?_
        ·refine ⟨?_, ?_, ?_, ?_, ?_, ?_, ?_, ?_, ?_, ?_, ?_, ?_, ?_, ?_, ?_, ?_, ?_, ?_, ?_, ?_, ?_, ?_, ?_, ?_, ?_, ?_, ?_, ?_, ?_, ?_, trivial⟩
         ·intro a w' hx hu hd K hK; have e3 : a.tmps.getD 3 undef = (.string tw) := hu 3 rfl; exact Flow.run1 rfl (Flow.r_move rfl e3) (hK _ _ (Below.refl _ _) rfl)
         ·intro a w' hx hu hd K hK; have e27 := Flow.got (hd 0 rfl) 27 rfl; exact Flow.run1 rfl (seqb rfl e27 rfl (by rw [← HTW.out]; exact fmt_ne HG.out HI.out)) (hK _ _ (Below.refl _ _) rfl)
         ·intro a w' hx hu hd K hK; have e28 := Flow.got (hd 1 rfl) 28 rfl; exact Flow.run1 rfl (Flow.r_move rfl e28) (hK _ _ (Below.refl _ _) rfl)
         ·intro a w' hx hu hd K hK; have e4 : a.tmps.getD 4 undef = (.pointer (some ⟨g22, 0, none⟩)) := hu 4 rfl; have e29 := Flow.got (hd 2 rfl) 29 rfl; exact Flow.run1 (Flow.want_of (k := 29) rfl e29) (fa rfl e4 (fa56_2 _ _ _)) (hK _ _ (Below.refl _ _) rfl)
         ·intro a w' hx hu hd K hK; have e30 := Flow.got (hd 3 rfl) 30 rfl; have e29 := Flow.got (hd 2 rfl) 29 rfl; exact Flow.run1 (Flow.want_of (k := 29) rfl e29) (ld rfl e30 ((blk_cell (blk_below Kg22_23.out hx) 7).trans rfl) Tryd.underlying3 rfl) (hK _ _ (Below.refl _ _) rfl)
         ·intro a w' hx hu hd K hK; have e31 := Flow.got (hd 4 rfl) 31 rfl; have e29 := Flow.got (hd 2 rfl) 29 rfl; refine Flow.want (Flow.want_of (k := 29) rfl e29) ?_; refine Flow.val_call rfl Tryd.func37 (by kernel_rfl) rfl (by simp only [List.map_toArray, List.map_cons, List.map_nil, Act.eval, e31] <;> rfl) (far_c z.m w') ?_; rintro e w2 ⟨rfl, hb2⟩; rw [HF_m.out]; exact ⟨_, rfl, hK _ _ hb2 rfl⟩
         ·intro a w' hx hu hd K hK; have e29 := Flow.got (hd 2 rfl) 29 rfl; have e32 := Flow.got (hd 5 rfl) 32 rfl; exact Flow.run1 rfl (Flow.r_pick rfl e29 e32) (hK _ _ (Below.refl _ _) rfl)
         ·intro a w' hx hu hd K hK; have e33 := Flow.got (hd 6 rfl) 33 rfl; exact Flow.run1 rfl (Flow.r_move rfl e33) (hK _ _ (Below.refl _ _) rfl)
         ·intro a w' hx hu hd K hK; have e4 : a.tmps.getD 4 undef = (.pointer (some ⟨g22, 0, none⟩)) := hu 4 rfl; have e34 := Flow.got (hd 7 rfl) 34 rfl; exact Flow.run1 (Flow.want_of (k := 34) rfl e34) (fa rfl e4 (fa56_3 _ _ _)) (hK _ _ (Below.refl _ _) rfl)
         ·intro a w' hx hu hd K hK; have e35 := Flow.got (hd 8 rfl) 35 rfl; have e34 := Flow.got (hd 7 rfl) 34 rfl; exact Flow.run1 (Flow.want_of (k := 34) rfl e34) (ld rfl e35 ((blk_cell (blk_below Kg22_23.out hx) 8).trans rfl) Tryd.underlying3 rfl) (hK _ _ (Below.refl _ _) rfl)
         ·intro a w' hx hu hd K hK; have e36 := Flow.got (hd 9 rfl) 36 rfl; have e34 := Flow.got (hd 7 rfl) 34 rfl; refine Flow.want (Flow.want_of (k := 34) rfl e34) ?_; refine Flow.val_call rfl Tryd.func37 (by kernel_rfl) rfl (by simp only [List.map_toArray, List.map_cons, List.map_nil, Act.eval, e36] <;> rfl) (far_c z.k w') ?_; rintro e w2 ⟨rfl, hb2⟩; rw [HF_k.out]; exact ⟨_, rfl, hK _ _ hb2 rfl⟩
         ·intro a w' hx hu hd K hK; have e34 := Flow.got (hd 7 rfl) 34 rfl; have e37 := Flow.got (hd 10 rfl) 37 rfl; exact Flow.run1 rfl (Flow.r_pick rfl e34 e37) (hK _ _ (Below.refl _ _) rfl)
         ·intro a w' hx hu hd K hK; have e38 := Flow.got (hd 11 rfl) 38 rfl; exact Flow.run1 rfl (Flow.r_move rfl e38) (hK _ _ (Below.refl _ _) rfl)
         ·intro a w' hx hu hd K hK; have e4 : a.tmps.getD 4 undef = (.pointer (some ⟨g22, 0, none⟩)) := hu 4 rfl; have e39 := Flow.got (hd 12 rfl) 39 rfl; exact Flow.run1 (Flow.want_of (k := 39) rfl e39) (fa rfl e4 (fa56_1 _ _ _)) (hK _ _ (Below.refl _ _) rfl)
         ·intro a w' hx hu hd K hK; have e40 := Flow.got (hd 13 rfl) 40 rfl; have e39 := Flow.got (hd 12 rfl) 39 rfl; exact Flow.run1 (Flow.want_of (k := 39) rfl e39) (fa rfl e40 (fa54_1 _ _ _)) (hK _ _ (Below.refl _ _) rfl)
         ·intro a w' hx hu hd K hK; have e41 := Flow.got (hd 14 rfl) 41 rfl; have e39 := Flow.got (hd 12 rfl) 39 rfl; exact Flow.run1 (Flow.want_of (k := 39) rfl e39) (ld rfl e41 ((blk_cell (blk_below Kg22_23.out hx) 2).trans rfl) Tryd.underlying3 rfl) (hK _ _ (Below.refl _ _) rfl)
         ·intro a w' hx hu hd K hK; have e42 := Flow.got (hd 15 rfl) 42 rfl; have e39 := Flow.got (hd 12 rfl) 39 rfl; refine Flow.want (Flow.want_of (k := 39) rfl e39) ?_; refine Flow.val_call rfl Tryd.func37 (by kernel_rfl) rfl (by simp only [List.map_toArray, List.map_cons, List.map_nil, Act.eval, e42] <;> rfl) (far_c z.zone w') ?_; rintro e w2 ⟨rfl, hb2⟩; rw [HF_zone.out]; exact ⟨_, rfl, hK _ _ hb2 rfl⟩
         ·intro a w' hx hu hd K hK; have e39 := Flow.got (hd 12 rfl) 39 rfl; have e43 := Flow.got (hd 16 rfl) 43 rfl; exact Flow.run1 rfl (Flow.r_pick rfl e39 e43) (hK _ _ (Below.refl _ _) rfl)
         ·intro a w' hx hu hd K hK; have e44 := Flow.got (hd 17 rfl) 44 rfl; exact Flow.run1 rfl (Flow.r_move rfl e44) (hK _ _ (Below.refl _ _) rfl)
         ·intro a w' hx hu hd K hK; have e4 : a.tmps.getD 4 undef = (.pointer (some ⟨g22, 0, none⟩)) := hu 4 rfl; have e45 := Flow.got (hd 18 rfl) 45 rfl; exact Flow.run1 (Flow.want_of (k := 45) rfl e45) (fa rfl e4 (fa56_1 _ _ _)) (hK _ _ (Below.refl _ _) rfl)
         ·intro a w' hx hu hd K hK; have e46 := Flow.got (hd 19 rfl) 46 rfl; have e45 := Flow.got (hd 18 rfl) 45 rfl; exact Flow.run1 (Flow.want_of (k := 45) rfl e45) (fa rfl e46 (fa54_2 _ _ _)) (hK _ _ (Below.refl _ _) rfl)
         ·intro a w' hx hu hd K hK; have e47 := Flow.got (hd 20 rfl) 47 rfl; have e45 := Flow.got (hd 18 rfl) 45 rfl; exact Flow.run1 (Flow.want_of (k := 45) rfl e45) (ld rfl e47 ((blk_cell (blk_below Kg22_23.out hx) 3).trans rfl) Tryd.underlying3 rfl) (hK _ _ (Below.refl _ _) rfl)
         ·intro a w' hx hu hd K hK; have e48 := Flow.got (hd 21 rfl) 48 rfl; have e45 := Flow.got (hd 18 rfl) 45 rfl; refine Flow.want (Flow.want_of (k := 45) rfl e45) ?_; refine Flow.val_call rfl Tryd.func37 (by kernel_rfl) rfl (by simp only [List.map_toArray, List.map_cons, List.map_nil, Act.eval, e48] <;> rfl) (far_c z.at_ w') ?_; rintro e w2 ⟨rfl, hb2⟩; rw [HF_at_.out]; exact ⟨_, rfl, hK _ _ hb2 rfl⟩
         ·intro a w' hx hu hd K hK; have e45 := Flow.got (hd 18 rfl) 45 rfl; have e49 := Flow.got (hd 22 rfl) 49 rfl; exact Flow.run1 rfl (Flow.r_pick rfl e45 e49) (hK _ _ (Below.refl _ _) rfl)
         ·intro a w' hx hu hd K hK; have e50 := Flow.got (hd 23 rfl) 50 rfl; exact Flow.run1 rfl (Flow.r_move rfl e50) (hK _ _ (Below.refl _ _) rfl)
         ·intro a w' hx hu hd K hK; have e51 := Flow.got (hd 24 rfl) 51 rfl; exact Flow.spare (Flow.spare_of (k := 51) rfl e51 rfl) (hK _ _ (Below.refl _ _) rfl)
         ·intro a w' hx hu hd K hK; have e51 := Flow.got (hd 24 rfl) 51 rfl; exact Flow.spare (Flow.spare_of (k := 51) rfl e51 rfl) (hK _ _ (Below.refl _ _) rfl)
         ·intro a w' hx hu hd K hK; have e51 := Flow.got (hd 24 rfl) 51 rfl; exact Flow.spare (Flow.spare_of (k := 51) rfl e51 rfl) (hK _ _ (Below.refl _ _) rfl)
         ·intro a w' hx hu hd K hK; have e51 := Flow.got (hd 24 rfl) 51 rfl; exact Flow.spare (Flow.spare_of (k := 51) rfl e51 rfl) (hK _ _ (Below.refl _ _) rfl)
         ·intro a w' hx hu hd K hK; have e51 := Flow.got (hd 24 rfl) 51 rfl; have e55 := Flow.got (hd 28 rfl) 55 rfl; exact Flow.run1 rfl (Flow.r_pick rfl e51 rfl) (hK _ _ (Below.refl _ _) rfl)
        intro vs W30 hb30 hT
        have v0 := Flow.eqn (hT 0 (by decide))
        have v1 := Flow.eqn (hT 1 (by decide))
        have v2 := Flow.eqn (hT 2 (by decide))
        have v3 := Flow.eqn (hT 3 (by decide))
        have v4 := Flow.eqn (hT 4 (by decide))
        have v5 := Flow.eqn (hT 5 (by decide))
        have v6 := Flow.eqn (hT 6 (by decide))
        have v7 := Flow.eqn (hT 7 (by decide))
        have v8 := Flow.eqn (hT 8 (by decide))
        have v9 := Flow.eqn (hT 9 (by decide))
        have v10 := Flow.eqn (hT 10 (by decide))
        have v11 := Flow.eqn (hT 11 (by decide))
        have v12 := Flow.eqn (hT 12 (by decide))
        have v13 := Flow.eqn (hT 13 (by decide))
        have v14 := Flow.eqn (hT 14 (by decide))
        have v15 := Flow.eqn (hT 15 (by decide))
        have v16 := Flow.eqn (hT 16 (by decide))
        have v17 := Flow.eqn (hT 17 (by decide))
        have v18 := Flow.eqn (hT 18 (by decide))
        have v19 := Flow.eqn (hT 19 (by decide))
        have v20 := Flow.eqn (hT 20 (by decide))
        have v21 := Flow.eqn (hT 21 (by decide))
        have v22 := Flow.eqn (hT 22 (by decide))
        have v23 := Flow.eqn (hT 23 (by decide))
        have v24 := Flow.eqn (hT 24 (by decide))
        have v25 := Flow.eqn (hT 25 (by decide))
        have v26 := Flow.eqn (hT 26 (by decide))
        have v27 := Flow.eqn (hT 27 (by decide))
        have v28 := Flow.eqn (hT 28 (by decide))
        have v29 := Flow.eqn (hT 29 (by decide))
        simp only [Flow.putsT, v0, v1, v2, v3, v4, v5, v6, v7, v8, v9, v10, v11, v12, v13, v14, v15, v16, v17, v18, v19, v20, v21, v22, v23, v24, v25, v26, v27, v28, v29, Act.put, List.setIfInBounds_toArray, List.set_cons_zero, List.set_cons_succ]
        clear hT v0 v1 v2 v3 v4 v5 v6 v7 v8 v9 v10 v11 v12 v13 v14 v15 v16 v17 v18 v19 v20 v21 v22 v23 v24 v25 v26 v27 v28 v29
        have HB30 := Aside0.mk (below_step HB23.out hb30)
        have Kg9_10_11_19_20_21_22_23_30 := Aside0.mk (blk_below Kg9_10_11_19_20_21_22_23.out hb30)
        have Kg22_23_30 := Aside0.mk (blk_below Kg22_23.out hb30)
        clear hb30
        go_upto_region 8 with fail
        refine Flow.seqT (E := fun u v => Below u.heap.size u v) [(some 57, []), (some 2, [0, 0, 0])] (fun iQ vQ wQ => match iQ with | 0 => vQ = (.bool true) | 1 => vQ = (.bool true) | _ => True) rfl (by kernel_rfl) (Below.refl _ _) (fun _ _ _ h k => h.trans (k.mono h.size)) (fun _ _ _ _ h _ => h) ?_ ?_
        ·refine ⟨?_, ?_, trivial⟩
         ·intro a w' hx hu hd K hK; refine Flow.want rfl ?_; refine Flow.val_call rfl Tryd.func27 (by kernel_rfl) rfl (by simp only [List.map_toArray, List.map_cons, List.map_nil, Act.eval] <;> rfl) (live_c w') ?_; rintro e w2 ⟨rfl, hb2⟩; exact ⟨_, rfl, hK _ _ hb2 rfl⟩
         ·intro a w' hx hu hd K hK; have e57 := Flow.got (hd 0 rfl) 57 rfl; exact Flow.run1 rfl (Flow.r_assign rfl e57) (hK _ _ (Below.refl _ _) rfl)
        intro vs W31 hb31 hT
        have v0 := Flow.eqn (hT 0 (by decide))
        have v1 := Flow.eqn (hT 1 (by decide))
        simp only [Flow.putsT, v0, v1, Act.put, List.setIfInBounds_toArray, List.set_cons_zero, List.set_cons_succ]
        clear hT v0 v1
        have HB31 := Aside0.mk (below_step HB30.out hb31)
        have Kg9_10_11_19_20_21_22_23_30_31 := Aside0.mk (blk_below Kg9_10_11_19_20_21_22_23_30.out hb31)
        have Kg22_23_30_31 := Aside0.mk (blk_below Kg22_23_30.out hb31)
        clear hb31
        go_wp2_with fail
        exact bodyPost_ret (results_tmp Tryd.results7 _ _ _) rfl ⟨rfl, HB31.out⟩
       | false =>
        obtain ⟨bf, HF_n⟩ : ∃ q, Aside0 (farI z.n = q) := ⟨_, ⟨rfl⟩⟩
        cases bf with
        | true =>
         go_upto_region 7 with fail
         refine Flow.seqT (E := fun u v => Below u.heap.size u v) [(some 27, []), (some 28, [0]), (some 29, [1]), (some 30, [2]), (some 31, [3, 2]), (some 32, [4, 2, 2]), (some 33, [2, 5]), (some 34, [6, 5]), (some 35, [7]), (some 36, [8, 7]), (some 37, [9, 7, 7]), (some 38, [7, 10]), (some 39, [11, 10]), (some 40, [12]), (some 41, [13, 12]), (some 42, [14, 12]), (some 43, [15, 12, 12]), (some 44, [12, 16]), (some 45, [17, 16]), (some 46, [18]), (some 47, [19, 18]), (some 48, [20, 18]), (some 49, [21, 18, 18]), (some 50, [18, 22]), (some 51, [23, 22]), (some 52, [24]), (some 53, [25, 24]), (some 54, [26, 24]), (some 55, [27, 24, 24]), (some 56, [24, 28])] (fun iQ vQ wQ => match iQ with | 0 => vQ = (.string tw) | 1 => vQ = (.bool false) | 2 => vQ = (.bool false) | 3 => vQ = (.pointer (some ⟨g22, 7, none⟩)) | 4 => vQ = (.int .i64 z.m) | 5 => vQ = (.bool false) | 6 => vQ = (.bool false) | 7 => vQ = (.bool false) | 8 => vQ = (.pointer (some ⟨g22, 8, none⟩)) | 9 => vQ = (.int .i64 z.k) | 10 => vQ = (.bool false) | 11 => vQ = (.bool false) | 12 => vQ = (.bool false) | 13 => vQ = (.pointer (some ⟨g22, 1, none⟩)) | 14 => vQ = (.pointer (some ⟨g22, 2, none⟩)) | 15 => vQ = (.int .i64 z.zone) | 16 => vQ = (.bool false) | 17 => vQ = (.bool false) | 18 => vQ = (.bool false) | 19 => vQ = (.pointer (some ⟨g22, 1, none⟩)) | 20 => vQ = (.pointer (some ⟨g22, 3, none⟩)) | 21 => vQ = (.int .i64 z.at_) | 22 => vQ = (.bool false) | 23 => vQ = (.bool false) | 24 => vQ = (.bool false) | 25 => vQ = (.pointer (some ⟨g22, 1, none⟩)) | 26 => vQ = (.pointer (some ⟨g22, 4, none⟩)) | 27 => vQ = (.int .i64 z.n) | 28 => vQ = (.bool true) | 29 => vQ = (.bool true) | _ => True) rfl (by kernel_rfl) (Below.refl _ _) (fun _ _ _ h k => h.trans (k.mono h.size)) (fun _ _ _ _ h _ => h) ?_ ?_
         ·refine ⟨?_, ?_, ?_, ?_, ?_, ?_, ?_, ?_, ?_, ?_, ?_, ?_, ?_, ?_, ?_, ?_, ?_, ?_, ?_, ?_, ?_, ?_, ?_, ?_, ?_, ?_, ?_, ?_, ?_, ?_, trivial⟩
          ·intro a w' hx hu hd K hK; have e3 : a.tmps.getD 3 undef = (.string tw) := hu 3 rfl; exact Flow.run1 rfl (Flow.r_move rfl e3) (hK _ _ (Below.refl _ _) rfl)
          ·intro a w' hx hu hd K hK; have e27 := Flow.got (hd 0 rfl) 27 rfl; exact Flow.run1 rfl (seqb rfl e27 rfl (by rw [← HTW.out]; exact fmt_ne HG.out HI.out)) (hK _ _ (Below.refl _ _) rfl)
          ·intro a w' hx hu hd K hK; have e28 := Flow.got (hd 1 rfl) 28 rfl; exact Flow.run1 rfl (Flow.r_move rfl e28) (hK _ _ (Below.refl _ _) rfl)
          ·intro a w' hx hu hd K hK; have e4 : a.tmps.getD 4 undef = (.pointer (some ⟨g22, 0, none⟩)) := hu 4 rfl; have e29 := Flow.got (hd 2 rfl) 29 rfl; exact Flow.run1 (Flow.want_of (k := 29) rfl e29) (fa rfl e4 (fa56_2 _ _ _)) (hK _ _ (Below.refl _ _) rfl)
          ·intro a w' hx hu hd K hK; have e30 := Flow.got (hd 3 rfl) 30 rfl; have e29 := Flow.got (hd 2 rfl) 29 rfl; exact Flow.run1 (Flow.want_of (k := 29) rfl e29) (ld rfl e30 ((blk_cell (blk_below Kg22_23.out hx) 7).trans rfl) Tryd.underlying3 rfl) (hK _ _ (Below.refl _ _) rfl)
          ·intro a w' hx hu hd K hK; have e31 := Flow.got (hd 4 rfl) 31 rfl; have e29 := Flow.got (hd 2 rfl) 29 rfl; refine Flow.want (Flow.want_of (k := 29) rfl e29) ?_; refine Flow.val_call rfl Tryd.func37 (by kernel_rfl) rfl (by simp only [List.map_toArray, List.map_cons, List.map_nil, Act.eval, e31] <;> rfl) (far_c z.m w') ?_; rintro e w2 ⟨rfl, hb2⟩; rw [HF_m.out]; exact ⟨_, rfl, hK _ _ hb2 rfl⟩
          ·intro a w' hx hu hd K hK; have e29 := Flow.got (hd 2 rfl) 29 rfl; have e32 := Flow.got (hd 5 rfl) 32 rfl; exact Flow.run1 rfl (Flow.r_pick rfl e29 e32) (hK _ _ (Below.refl _ _) rfl)
          ·intro a w' hx hu hd K hK; have e33 := Flow.got (hd 6 rfl) 33 rfl; exact Flow.run1 rfl (Flow.r_move rfl e33) (hK _ _ (Below.refl _ _) rfl)
          ·intro a w' hx hu hd K hK; have e4 : a.tmps.getD 4 undef = (.pointer (some ⟨g22, 0, none⟩)) := hu 4 rfl; have e34 := Flow.got (hd 7 rfl) 34 rfl; exact Flow.run1 (Flow.want_of (k := 34) rfl e34) (fa rfl e4 (fa56_3 _ _ _)) (hK _ _ (Below.refl _ _) rfl)
          ·intro a w' hx hu hd K hK; have e35 := Flow.got (hd 8 rfl) 35 rfl; have e34 := Flow.got (hd 7 rfl) 34 rfl; exact Flow.run1 (Flow.want_of (k := 34) rfl e34) (ld rfl e35 ((blk_cell (blk_below Kg22_23.out hx) 8).trans rfl) Tryd.underlying3 rfl) (hK _ _ (Below.refl _ _) rfl)
          ·intro a w' hx hu hd K hK; have e36 := Flow.got (hd 9 rfl) 36 rfl; have e34 := Flow.got (hd 7 rfl) 34 rfl; refine Flow.want (Flow.want_of (k := 34) rfl e34) ?_; refine Flow.val_call rfl Tryd.func37 (by kernel_rfl) rfl (by simp only [List.map_toArray, List.map_cons, List.map_nil, Act.eval, e36] <;> rfl) (far_c z.k w') ?_; rintro e w2 ⟨rfl, hb2⟩; rw [HF_k.out]; exact ⟨_, rfl, hK _ _ hb2 rfl⟩
          ·intro a w' hx hu hd K hK; have e34 := Flow.got (hd 7 rfl) 34 rfl; have e37 := Flow.got (hd 10 rfl) 37 rfl; exact Flow.run1 rfl (Flow.r_pick rfl e34 e37) (hK _ _ (Below.refl _ _) rfl)
          ·intro a w' hx hu hd K hK; have e38 := Flow.got (hd 11 rfl) 38 rfl; exact Flow.run1 rfl (Flow.r_move rfl e38) (hK _ _ (Below.refl _ _) rfl)
          ·intro a w' hx hu hd K hK; have e4 : a.tmps.getD 4 undef = (.pointer (some ⟨g22, 0, none⟩)) := hu 4 rfl; have e39 := Flow.got (hd 12 rfl) 39 rfl; exact Flow.run1 (Flow.want_of (k := 39) rfl e39) (fa rfl e4 (fa56_1 _ _ _)) (hK _ _ (Below.refl _ _) rfl)
          ·intro a w' hx hu hd K hK; have e40 := Flow.got (hd 13 rfl) 40 rfl; have e39 := Flow.got (hd 12 rfl) 39 rfl; exact Flow.run1 (Flow.want_of (k := 39) rfl e39) (fa rfl e40 (fa54_1 _ _ _)) (hK _ _ (Below.refl _ _) rfl)
          ·intro a w' hx hu hd K hK; have e41 := Flow.got (hd 14 rfl) 41 rfl; have e39 := Flow.got (hd 12 rfl) 39 rfl; exact Flow.run1 (Flow.want_of (k := 39) rfl e39) (ld rfl e41 ((blk_cell (blk_below Kg22_23.out hx) 2).trans rfl) Tryd.underlying3 rfl) (hK _ _ (Below.refl _ _) rfl)
          ·intro a w' hx hu hd K hK; have e42 := Flow.got (hd 15 rfl) 42 rfl; have e39 := Flow.got (hd 12 rfl) 39 rfl; refine Flow.want (Flow.want_of (k := 39) rfl e39) ?_; refine Flow.val_call rfl Tryd.func37 (by kernel_rfl) rfl (by simp only [List.map_toArray, List.map_cons, List.map_nil, Act.eval, e42] <;> rfl) (far_c z.zone w') ?_; rintro e w2 ⟨rfl, hb2⟩; rw [HF_zone.out]; exact ⟨_, rfl, hK _ _ hb2 rfl⟩
          ·intro a w' hx hu hd K hK; have e39 := Flow.got (hd 12 rfl) 39 rfl; have e43 := Flow.got (hd 16 rfl) 43 rfl; exact Flow.run1 rfl (Flow.r_pick rfl e39 e43) (hK _ _ (Below.refl _ _) rfl)
          ·intro a w' hx hu hd K hK; have e44 := Flow.got (hd 17 rfl) 44 rfl; exact Flow.run1 rfl (Flow.r_move rfl e44) (hK _ _ (Below.refl _ _) rfl)
          ·intro a w' hx hu hd K hK; have e4 : a.tmps.getD 4 undef = (.pointer (some ⟨g22, 0, none⟩)) := hu 4 rfl; have e45 := Flow.got (hd 18 rfl) 45 rfl; exact Flow.run1 (Flow.want_of (k := 45) rfl e45) (fa rfl e4 (fa56_1 _ _ _)) (hK _ _ (Below.refl _ _) rfl)
          ·intro a w' hx hu hd K hK; have e46 := Flow.got (hd 19 rfl) 46 rfl; have e45 := Flow.got (hd 18 rfl) 45 rfl; exact Flow.run1 (Flow.want_of (k := 45) rfl e45) (fa rfl e46 (fa54_2 _ _ _)) (hK _ _ (Below.refl _ _) rfl)
          ·intro a w' hx hu hd K hK; have e47 := Flow.got (hd 20 rfl) 47 rfl; have e45 := Flow.got (hd 18 rfl) 45 rfl; exact Flow.run1 (Flow.want_of (k := 45) rfl e45) (ld rfl e47 ((blk_cell (blk_below Kg22_23.out hx) 3).trans rfl) Tryd.underlying3 rfl) (hK _ _ (Below.refl _ _) rfl)
          ·intro a w' hx hu hd K hK; have e48 := Flow.got (hd 21 rfl) 48 rfl; have e45 := Flow.got (hd 18 rfl) 45 rfl; refine Flow.want (Flow.want_of (k := 45) rfl e45) ?_; refine Flow.val_call rfl Tryd.func37 (by kernel_rfl) rfl (by simp only [List.map_toArray, List.map_cons, List.map_nil, Act.eval, e48] <;> rfl) (far_c z.at_ w') ?_; rintro e w2 ⟨rfl, hb2⟩; rw [HF_at_.out]; exact ⟨_, rfl, hK _ _ hb2 rfl⟩
          ·intro a w' hx hu hd K hK; have e45 := Flow.got (hd 18 rfl) 45 rfl; have e49 := Flow.got (hd 22 rfl) 49 rfl; exact Flow.run1 rfl (Flow.r_pick rfl e45 e49) (hK _ _ (Below.refl _ _) rfl)
          ·intro a w' hx hu hd K hK; have e50 := Flow.got (hd 23 rfl) 50 rfl; exact Flow.run1 rfl (Flow.r_move rfl e50) (hK _ _ (Below.refl _ _) rfl)
          ·intro a w' hx hu hd K hK; have e4 : a.tmps.getD 4 undef = (.pointer (some ⟨g22, 0, none⟩)) := hu 4 rfl; have e51 := Flow.got (hd 24 rfl) 51 rfl; exact Flow.run1 (Flow.want_of (k := 51) rfl e51) (fa rfl e4 (fa56_1 _ _ _)) (hK _ _ (Below.refl _ _) rfl)
          ·intro a w' hx hu hd K hK; have e52 := Flow.got (hd 25 rfl) 52 rfl; have e51 := Flow.got (hd 24 rfl) 51 rfl; exact Flow.run1 (Flow.want_of (k := 51) rfl e51) (fa rfl e52 (fa54_3 _ _ _)) (hK _ _ (Below.refl _ _) rfl)
          ·intro a w' hx hu hd K hK; have e53 := Flow.got (hd 26 rfl) 53 rfl; have e51 := Flow.got (hd 24 rfl) 51 rfl; exact Flow.run1 (Flow.want_of (k := 51) rfl e51) (ld rfl e53 ((blk_cell (blk_below Kg22_23.out hx) 4).trans rfl) Tryd.underlying3 rfl) (hK _ _ (Below.refl _ _) rfl)
          ·intro a w' hx hu hd K hK; have e54 := Flow.got (hd 27 rfl) 54 rfl; have e51 := Flow.got (hd 24 rfl) 51 rfl; refine Flow.want (Flow.want_of (k := 51) rfl e51) ?_; refine Flow.val_call rfl Tryd.func37 (by kernel_rfl) rfl (by simp only [List.map_toArray, List.map_cons, List.map_nil, Act.eval, e54] <;> rfl) (far_c z.n w') ?_; rintro e w2 ⟨rfl, hb2⟩; rw [HF_n.out]; exact ⟨_, rfl, hK _ _ hb2 rfl⟩
          ·intro a w' hx hu hd K hK; have e51 := Flow.got (hd 24 rfl) 51 rfl; have e55 := Flow.got (hd 28 rfl) 55 rfl; exact Flow.run1 rfl (Flow.r_pick rfl e51 e55) (hK _ _ (Below.refl _ _) rfl)
         intro vs W32 hb32 hT
         have v0 := Flow.eqn (hT 0 (by decide))
         have v1 := Flow.eqn (hT 1 (by decide))
         have v2 := Flow.eqn (hT 2 (by decide))
         have v3 := Flow.eqn (hT 3 (by decide))
         have v4 := Flow.eqn (hT 4 (by decide))
         have v5 := Flow.eqn (hT 5 (by decide))
         have v6 := Flow.eqn (hT 6 (by decide))
         have v7 := Flow.eqn (hT 7 (by decide))
         have v8 := Flow.eqn (hT 8 (by decide))
         have v9 := Flow.eqn (hT 9 (by decide))
         have v10 := Flow.eqn (hT 10 (by decide))
         have v11 := Flow.eqn (hT 11 (by decide))
         have v12 := Flow.eqn (hT 12 (by decide))
         have v13 := Flow.eqn (hT 13 (by decide))
         have v14 := Flow.eqn (hT 14 (by decide))
         have v15 := Flow.eqn (hT 15 (by decide))
         have v16 := Flow.eqn (hT 16 (by decide))
         have v17 := Flow.eqn (hT 17 (by decide))
         have v18 := Flow.eqn (hT 18 (by decide))
         have v19 := Flow.eqn (hT 19 (by decide))
         have v20 := Flow.eqn (hT 20 (by decide))
         have v21 := Flow.eqn (hT 21 (by decide))
         have v22 := Flow.eqn (hT 22 (by decide))
         have v23 := Flow.eqn (hT 23 (by decide))
         have v24 := Flow.eqn (hT 24 (by decide))
         have v25 := Flow.eqn (hT 25 (by decide))
         have v26 := Flow.eqn (hT 26 (by decide))
         have v27 := Flow.eqn (hT 27 (by decide))
         have v28 := Flow.eqn (hT 28 (by decide))
         have v29 := Flow.eqn (hT 29 (by decide))
         simp only [Flow.putsT, v0, v1, v2, v3, v4, v5, v6, v7, v8, v9, v10, v11, v12, v13, v14, v15, v16, v17, v18, v19, v20, v21, v22, v23, v24, v25, v26, v27, v28, v29, Act.put, List.setIfInBounds_toArray, List.set_cons_zero, List.set_cons_succ]
         clear hT v0 v1 v2 v3 v4 v5 v6 v7 v8 v9 v10 v11 v12 v13 v14 v15 v16 v17 v18 v19 v20 v21 v22 v23 v24 v25 v26 v27 v28 v29
         have HB32 := Aside0.mk (below_step HB23.out hb32)
         have Kg9_10_11_19_20_21_22_23_32 := Aside0.mk (blk_below Kg9_10_11_19_20_21_22_23.out hb32)
         have Kg22_23_32 := Aside0.mk (blk_below Kg22_23.out hb32)
         clear hb32
         go_upto_region 8 with fail
         refine Flow.seqT (E := fun u v => Below u.heap.size u v) [(some 57, []), (some 2, [0, 0, 0])] (fun iQ vQ wQ => match iQ with | 0 => vQ = (.bool true) | 1 => vQ = (.bool true) | _ => True) rfl (by kernel_rfl) (Below.refl _ _) (fun _ _ _ h k => h.trans (k.mono h.size)) (fun _ _ _ _ h _ => h) ?_ ?_
         ·refine ⟨?_, ?_, trivial⟩
          ·intro a w' hx hu hd K hK; refine Flow.want rfl ?_; refine Flow.val_call rfl Tryd.func27 (by kernel_rfl) rfl (by simp only [List.map_toArray, List.map_cons, List.map_nil, Act.eval] <;> rfl) (live_c w') ?_; rintro e w2 ⟨rfl, hb2⟩; exact ⟨_, rfl, hK _ _ hb2 rfl⟩
          ·intro a w' hx hu hd K hK; have e57 := Flow.got (hd 0 rfl) 57 rfl; exact Flow.run1 rfl (Flow.r_assign rfl e57) (hK _ _ (Below.refl _ _) rfl)
         intro vs W33 hb33 hT
         have v0 := Flow.eqn (hT 0 (by decide))
         have v1 := Flow.eqn (hT 1 (by decide))
         simp only [Flow.putsT, v0, v1, Act.put, List.setIfInBounds_toArray, List.set_cons_zero, List.set_cons_succ]
         clear hT v0 v1
         have HB33 := Aside0.mk (below_step HB32.out hb33)
         have Kg9_10_11_19_20_21_22_23_32_33 := Aside0.mk (blk_below Kg9_10_11_19_20_21_22_23_32.out hb33)
         have Kg22_23_32_33 := Aside0.mk (blk_below Kg22_23_32.out hb33)
         clear hb33
         go_wp2_with fail
         exact bodyPost_ret (results_tmp Tryd.results7 _ _ _) rfl ⟨rfl, HB33.out⟩
        | false =>
         go_upto_region 7 with fail
         refine Flow.seqT (E := fun u v => Below u.heap.size u v) [(some 27, []), (some 28, [0]), (some 29, [1]), (some 30, [2]), (some 31, [3, 2]), (some 32, [4, 2, 2]), (some 33, [2, 5]), (some 34, [6, 5]), (some 35, [7]), (some 36, [8, 7]), (some 37, [9, 7, 7]), (some 38, [7, 10]), (some 39, [11, 10]), (some 40, [12]), (some 41, [13, 12]), (some 42, [14, 12]), (some 43, [15, 12, 12]), (some 44, [12, 16]), (some 45, [17, 16]), (some 46, [18]), (some 47, [19, 18]), (some 48, [20, 18]), (some 49, [21, 18, 18]), (some 50, [18, 22]), (some 51, [23, 22]), (some 52, [24]), (some 53, [25, 24]), (some 54, [26, 24]), (some 55, [27, 24, 24]), (some 56, [24, 28])] (fun iQ vQ wQ => match iQ with | 0 => vQ = (.string tw) | 1 => vQ = (.bool false) | 2 => vQ = (.bool false) | 3 => vQ = (.pointer (some ⟨g22, 7, none⟩)) | 4 => vQ = (.int .i64 z.m) | 5 => vQ = (.bool false) | 6 => vQ = (.bool false) | 7 => vQ = (.bool false) | 8 => vQ = (.pointer (some ⟨g22, 8, none⟩)) | 9 => vQ = (.int .i64 z.k) | 10 => vQ = (.bool false) | 11 => vQ = (.bool false) | 12 => vQ = (.bool false) | 13 => vQ = (.pointer (some ⟨g22, 1, none⟩)) | 14 => vQ = (.pointer (some ⟨g22, 2, none⟩)) | 15 => vQ = (.int .i64 z.zone) | 16 => vQ = (.bool false) | 17 => vQ = (.bool false) | 18 => vQ = (.bool false) | 19 => vQ = (.pointer (some ⟨g22, 1, none⟩)) | 20 => vQ = (.pointer (some ⟨g22, 3, none⟩)) | 21 => vQ = (.int .i64 z.at_) | 22 => vQ = (.bool false) | 23 => vQ = (.bool false) | 24 => vQ = (.bool false) | 25 => vQ = (.pointer (some ⟨g22, 1, none⟩)) | 26 => vQ = (.pointer (some ⟨g22, 4, none⟩)) | 27 => vQ = (.int .i64 z.n) | 28 => vQ = (.bool false) | 29 => vQ = (.bool false) | _ => True) rfl (by kernel_rfl) (Below.refl _ _) (fun _ _ _ h k => h.trans (k.mono h.size)) (fun _ _ _ _ h _ => h) ?_ ?_
         ·refine ⟨?_, ?_, ?_, ?_, ?_, ?_, ?_, ?_, ?_, ?_, ?_, ?_, ?_, ?_, ?_, ?_, ?_, ?_, ?_, ?_, ?_, ?_, ?_, ?_, ?_, ?_, ?_, ?_, ?_, ?_, trivial⟩
          ·intro a w' hx hu hd K hK; have e3 : a.tmps.getD 3 undef = (.string tw) := hu 3 rfl; exact Flow.run1 rfl (Flow.r_move rfl e3) (hK _ _ (Below.refl _ _) rfl)
          ·intro a w' hx hu hd K hK; have e27 := Flow.got (hd 0 rfl) 27 rfl; exact Flow.run1 rfl (seqb rfl e27 rfl (by rw [← HTW.out]; exact fmt_ne HG.out HI.out)) (hK _ _ (Below.refl _ _) rfl)
          ·intro a w' hx hu hd K hK; have e28 := Flow.got (hd 1 rfl) 28 rfl; exact Flow.run1 rfl (Flow.r_move rfl e28) (hK _ _ (Below.refl _ _) rfl)
          ·intro a w' hx hu hd K hK; have e4 : a.tmps.getD 4 undef = (.pointer (some ⟨g22, 0, none⟩)) := hu 4 rfl; have e29 := Flow.got (hd 2 rfl) 29 rfl; exact Flow.run1 (Flow.want_of (k := 29) rfl e29) (fa rfl e4 (fa56_2 _ _ _)) (hK _ _ (Below.refl _ _) rfl)
          ·intro a w' hx hu hd K hK; have e30 := Flow.got (hd 3 rfl) 30 rfl; have e29 := Flow.got (hd 2 rfl) 29 rfl; exact Flow.run1 (Flow.want_of (k := 29) rfl e29) (ld rfl e30 ((blk_cell (blk_below Kg22_23.out hx) 7).trans rfl) Tryd.underlying3 rfl) (hK _ _ (Below.refl _ _) rfl)
          ·intro a w' hx hu hd K hK; have e31 := Flow.got (hd 4 rfl) 31 rfl; have e29 := Flow.got (hd 2 rfl) 29 rfl; refine Flow.want (Flow.want_of (k := 29) rfl e29) ?_; refine Flow.val_call rfl Tryd.func37 (by kernel_rfl) rfl (by simp only [List.map_toArray, List.map_cons, List.map_nil, Act.eval, e31] <;> rfl) (far_c z.m w') ?_; rintro e w2 ⟨rfl, hb2⟩; rw [HF_m.out]; exact ⟨_, rfl, hK _ _ hb2 rfl⟩
          ·intro a w' hx hu hd K hK; have e29 := Flow.got (hd 2 rfl) 29 rfl; have e32 := Flow.got (hd 5 rfl) 32 rfl; exact Flow.run1 rfl (Flow.r_pick rfl e29 e32) (hK _ _ (Below.refl _ _) rfl)
          ·intro a w' hx hu hd K hK; have e33 := Flow.got (hd 6 rfl) 33 rfl; exact Flow.run1 rfl (Flow.r_move rfl e33) (hK _ _ (Below.refl _ _) rfl)
          ·intro a w' hx hu hd K hK; have e4 : a.tmps.getD 4 undef = (.pointer (some ⟨g22, 0, none⟩)) := hu 4 rfl; have e34 := Flow.got (hd 7 rfl) 34 rfl; exact Flow.run1 (Flow.want_of (k := 34) rfl e34) (fa rfl e4 (fa56_3 _ _ _)) (hK _ _ (Below.refl _ _) rfl)
          ·intro a w' hx hu hd K hK; have e35 := Flow.got (hd 8 rfl) 35 rfl; have e34 := Flow.got (hd 7 rfl) 34 rfl; exact Flow.run1 (Flow.want_of (k := 34) rfl e34) (ld rfl e35 ((blk_cell (blk_below Kg22_23.out hx) 8).trans rfl) Tryd.underlying3 rfl) (hK _ _ (Below.refl _ _) rfl)
          ·intro a w' hx hu hd K hK; have e36 := Flow.got (hd 9 rfl) 36 rfl; have e34 := Flow.got (hd 7 rfl) 34 rfl; refine Flow.want (Flow.want_of (k := 34) rfl e34) ?_; refine Flow.val_call rfl Tryd.func37 (by kernel_rfl) rfl (by simp only [List.map_toArray, List.map_cons, List.map_nil, Act.eval, e36] <;> rfl) (far_c z.k w') ?_; rintro e w2 ⟨rfl, hb2⟩; rw [HF_k.out]; exact ⟨_, rfl, hK _ _ hb2 rfl⟩
          ·intro a w' hx hu hd K hK; have e34 := Flow.got (hd 7 rfl) 34 rfl; have e37 := Flow.got (hd 10 rfl) 37 rfl; exact Flow.run1 rfl (Flow.r_pick rfl e34 e37) (hK _ _ (Below.refl _ _) rfl)
          ·intro a w' hx hu hd K hK; have e38 := Flow.got (hd 11 rfl) 38 rfl; exact Flow.run1 rfl (Flow.r_move rfl e38) (hK _ _ (Below.refl _ _) rfl)
          ·intro a w' hx hu hd K hK; have e4 : a.tmps.getD 4 undef = (.pointer (some ⟨g22, 0, none⟩)) := hu 4 rfl; have e39 := Flow.got (hd 12 rfl) 39 rfl; exact Flow.run1 (Flow.want_of (k := 39) rfl e39) (fa rfl e4 (fa56_1 _ _ _)) (hK _ _ (Below.refl _ _) rfl)
          ·intro a w' hx hu hd K hK; have e40 := Flow.got (hd 13 rfl) 40 rfl; have e39 := Flow.got (hd 12 rfl) 39 rfl; exact Flow.run1 (Flow.want_of (k := 39) rfl e39) (fa rfl e40 (fa54_1 _ _ _)) (hK _ _ (Below.refl _ _) rfl)
          ·intro a w' hx hu hd K hK; have e41 := Flow.got (hd 14 rfl) 41 rfl; have e39 := Flow.got (hd 12 rfl) 39 rfl; exact Flow.run1 (Flow.want_of (k := 39) rfl e39) (ld rfl e41 ((blk_cell (blk_below Kg22_23.out hx) 2).trans rfl) Tryd.underlying3 rfl) (hK _ _ (Below.refl _ _) rfl)
          ·intro a w' hx hu hd K hK; have e42 := Flow.got (hd 15 rfl) 42 rfl; have e39 := Flow.got (hd 12 rfl) 39 rfl; refine Flow.want (Flow.want_of (k := 39) rfl e39) ?_; refine Flow.val_call rfl Tryd.func37 (by kernel_rfl) rfl (by simp only [List.map_toArray, List.map_cons, List.map_nil, Act.eval, e42] <;> rfl) (far_c z.zone w') ?_; rintro e w2 ⟨rfl, hb2⟩; rw [HF_zone.out]; exact ⟨_, rfl, hK _ _ hb2 rfl⟩
          ·intro a w' hx hu hd K hK; have e39 := Flow.got (hd 12 rfl) 39 rfl; have e43 := Flow.got (hd 16 rfl) 43 rfl; exact Flow.run1 rfl (Flow.r_pick rfl e39 e43) (hK _ _ (Below.refl _ _) rfl)
          ·intro a w' hx hu hd K hK; have e44 := Flow.got (hd 17 rfl) 44 rfl; exact Flow.run1 rfl (Flow.r_move rfl e44) (hK _ _ (Below.refl _ _) rfl)
          ·intro a w' hx hu hd K hK; have e4 : a.tmps.getD 4 undef = (.pointer (some ⟨g22, 0, none⟩)) := hu 4 rfl; have e45 := Flow.got (hd 18 rfl) 45 rfl; exact Flow.run1 (Flow.want_of (k := 45) rfl e45) (fa rfl e4 (fa56_1 _ _ _)) (hK _ _ (Below.refl _ _) rfl)
          ·intro a w' hx hu hd K hK; have e46 := Flow.got (hd 19 rfl) 46 rfl; have e45 := Flow.got (hd 18 rfl) 45 rfl; exact Flow.run1 (Flow.want_of (k := 45) rfl e45) (fa rfl e46 (fa54_2 _ _ _)) (hK _ _ (Below.refl _ _) rfl)
          ·intro a w' hx hu hd K hK; have e47 := Flow.got (hd 20 rfl) 47 rfl; have e45 := Flow.got (hd 18 rfl) 45 rfl; exact Flow.run1 (Flow.want_of (k := 45) rfl e45) (ld rfl e47 ((blk_cell (blk_below Kg22_23.out hx) 3).trans rfl) Tryd.underlying3 rfl) (hK _ _ (Below.refl _ _) rfl)
          ·intro a w' hx hu hd K hK; have e48 := Flow.got (hd 21 rfl) 48 rfl; have e45 := Flow.got (hd 18 rfl) 45 rfl; refine Flow.want (Flow.want_of (k := 45) rfl e45) ?_; refine Flow.val_call rfl Tryd.func37 (by kernel_rfl) rfl (by simp only [List.map_toArray, List.map_cons, List.map_nil, Act.eval, e48] <;> rfl) (far_c z.at_ w') ?_; rintro e w2 ⟨rfl, hb2⟩; rw [HF_at_.out]; exact ⟨_, rfl, hK _ _ hb2 rfl⟩
          ·intro a w' hx hu hd K hK; have e45 := Flow.got (hd 18 rfl) 45 rfl; have e49 := Flow.got (hd 22 rfl) 49 rfl; exact Flow.run1 rfl (Flow.r_pick rfl e45 e49) (hK _ _ (Below.refl _ _) rfl)
          ·intro a w' hx hu hd K hK; have e50 := Flow.got (hd 23 rfl) 50 rfl; exact Flow.run1 rfl (Flow.r_move rfl e50) (hK _ _ (Below.refl _ _) rfl)
          ·intro a w' hx hu hd K hK; have e4 : a.tmps.getD 4 undef = (.pointer (some ⟨g22, 0, none⟩)) := hu 4 rfl; have e51 := Flow.got (hd 24 rfl) 51 rfl; exact Flow.run1 (Flow.want_of (k := 51) rfl e51) (fa rfl e4 (fa56_1 _ _ _)) (hK _ _ (Below.refl _ _) rfl)
          ·intro a w' hx hu hd K hK; have e52 := Flow.got (hd 25 rfl) 52 rfl; have e51 := Flow.got (hd 24 rfl) 51 rfl; exact Flow.run1 (Flow.want_of (k := 51) rfl e51) (fa rfl e52 (fa54_3 _ _ _)) (hK _ _ (Below.refl _ _) rfl)
          ·intro a w' hx hu hd K hK; have e53 := Flow.got (hd 26 rfl) 53 rfl; have e51 := Flow.got (hd 24 rfl) 51 rfl; exact Flow.run1 (Flow.want_of (k := 51) rfl e51) (ld rfl e53 ((blk_cell (blk_below Kg22_23.out hx) 4).trans rfl) Tryd.underlying3 rfl) (hK _ _ (Below.refl _ _) rfl)
          ·intro a w' hx hu hd K hK; have e54 := Flow.got (hd 27 rfl) 54 rfl; have e51 := Flow.got (hd 24 rfl) 51 rfl; refine Flow.want (Flow.want_of (k := 51) rfl e51) ?_; refine Flow.val_call rfl Tryd.func37 (by kernel_rfl) rfl (by simp only [List.map_toArray, List.map_cons, List.map_nil, Act.eval, e54] <;> rfl) (far_c z.n w') ?_; rintro e w2 ⟨rfl, hb2⟩; rw [HF_n.out]; exact ⟨_, rfl, hK _ _ hb2 rfl⟩
          ·intro a w' hx hu hd K hK; have e51 := Flow.got (hd 24 rfl) 51 rfl; have e55 := Flow.got (hd 28 rfl) 55 rfl; exact Flow.run1 rfl (Flow.r_pick rfl e51 e55) (hK _ _ (Below.refl _ _) rfl)
         intro vs W34 hb34 hT
         have v0 := Flow.eqn (hT 0 (by decide))
         have v1 := Flow.eqn (hT 1 (by decide))
         have v2 := Flow.eqn (hT 2 (by decide))
         have v3 := Flow.eqn (hT 3 (by decide))
         have v4 := Flow.eqn (hT 4 (by decide))
         have v5 := Flow.eqn (hT 5 (by decide))
         have v6 := Flow.eqn (hT 6 (by decide))
         have v7 := Flow.eqn (hT 7 (by decide))
         have v8 := Flow.eqn (hT 8 (by decide))
         have v9 := Flow.eqn (hT 9 (by decide))
         have v10 := Flow.eqn (hT 10 (by decide))
         have v11 := Flow.eqn (hT 11 (by decide))
         have v12 := Flow.eqn (hT 12 (by decide))
         have v13 := Flow.eqn (hT 13 (by decide))
         have v14 := Flow.eqn (hT 14 (by decide))
         have v15 := Flow.eqn (hT 15 (by decide))
         have v16 := Flow.eqn (hT 16 (by decide))
         have v17 := Flow.eqn (hT 17 (by decide))
         have v18 := Flow.eqn (hT 18 (by decide))
         have v19 := Flow.eqn (hT 19 (by decide))
         have v20 := Flow.eqn (hT 20 (by decide))
         have v21 := Flow.eqn (hT 21 (by decide))
         have v22 := Flow.eqn (hT 22 (by decide))
         have v23 := Flow.eqn (hT 23 (by decide))
         have v24 := Flow.eqn (hT 24 (by decide))
         have v25 := Flow.eqn (hT 25 (by decide))
         have v26 := Flow.eqn (hT 26 (by decide))
         have v27 := Flow.eqn (hT 27 (by decide))
         have v28 := Flow.eqn (hT 28 (by decide))
         have v29 := Flow.eqn (hT 29 (by decide))
         simp only [Flow.putsT, v0, v1, v2, v3, v4, v5, v6, v7, v8, v9, v10, v11, v12, v13, v14, v15, v16, v17, v18, v19, v20, v21, v22, v23, v24, v25, v26, v27, v28, v29, Act.put, List.setIfInBounds_toArray, List.set_cons_zero, List.set_cons_succ]
         clear hT v0 v1 v2 v3 v4 v5 v6 v7 v8 v9 v10 v11 v12 v13 v14 v15 v16 v17 v18 v19 v20 v21 v22 v23 v24 v25 v26 v27 v28 v29
         have HB34 := Aside0.mk (below_step HB23.out hb34)
         have Kg9_10_11_19_20_21_22_23_34 := Aside0.mk (blk_below Kg9_10_11_19_20_21_22_23.out hb34)
         have Kg22_23_34 := Aside0.mk (blk_below Kg22_23.out hb34)
         clear hb34
         obtain ⟨y, vd, vk, hpf, hfy, hPr⟩ := parse_fmt HG.out (by rw [HND.out]; exact hd1) (by rw [HNK.out]; exact hk1) (HNR.out (near_of HF_m.out) (near_of HF_k.out) (near_of HF_zone.out) (near_of HF_at_.out) (near_of HF_n.out)) HI.out HM.out HBB.out (.slice Ad nd cd) (.slice Ak nk ck)
         rw [HKD.out, HCM.out, HFC.out] at hfy
         rw [HTW.out] at hpf
         obtain ⟨hVd, hVk⟩ := hPr (u8V w) ⟨none, 0, rfl, Kd.C_nil _ _⟩ ⟨Ad, cd, by rw [HND.out], HND.out.symm ▸ HCD.out⟩ ⟨Ak, ck, by rw [HNK.out], HNK.out.symm ▸ HCK.out⟩
         obtain ⟨A3, c3, rfl, hC3⟩ := hVd
         obtain ⟨A4, c4, rfl, hC4⟩ := hVk
         clear hPr
         have K4Y := Aside0.mk (show W34.heap[g22]? = some (.cells (cellsA y (.slice A3 y.data.length c3) (.slice A4 y.keep.length c4)).toArray 56 (0, 0)) by rw [← hfy]; exact Kg22_23_34.out)
         unfold cellsA at K4Y
         have HC3 := Aside0.mk hC3
         have HC4 := Aside0.mk hC4
         have HPF := Aside0.mk hpf
         clear hC3 hC4 hpf hfy
         have hts : tw.size ≤ 1000000 := by rw [← HTW.out]; exact tw_size x HG.out hd1 hk1 HND.out HNK.out HI.out HM.out
         go_upto_region 9 with fail
         refine Flow.seqT_head (E := fun u v => Below u.heap.size u v) 1 [(some 59, []), (some 60, [0]), (some 58, [1]), (some 61, [2]), (some 62, [2]), (some 5, []), (none, [5, 3, 1, 0, 1, 2, 3, 5]), (some 6, [4, 6, 0, 1, 2, 3, 4, 5, 6])] (fun iQ vQ wQ => match iQ with | 0 => vQ = (.string tw) | _ => True) rfl (by decide) (by kernel_rfl) (Below.refl _ _) (fun _ _ _ h k => h.trans (k.mono h.size)) (fun _ _ _ _ h _ => h) ?_ ?_
         ·refine ⟨?_, trivial⟩
          ·intro a w' hx hu hd K hK; have e3 : a.tmps.getD 3 undef = (.string tw) := hu 3 rfl; exact Flow.run1 rfl (Flow.r_move rfl e3) (hK _ _ (Below.refl _ _) rfl)
         intro vs W35 hb35 hT
         have v0 := Flow.eqn (hT 0 (by decide))
         simp only [Flow.putsT, v0, Act.put, List.setIfInBounds_toArray, List.set_cons_zero, List.set_cons_succ, List.drop_succ_cons, List.drop_zero, List.take_succ_cons, List.take_zero]
         clear hT v0
         have HB35 := Aside0.mk (below_step HB34.out hb35)
         have Kg9_10_11_19_20_21_22_23_34_35 := Aside0.mk (blk_below Kg9_10_11_19_20_21_22_23_34.out hb35)
         have K4Y_35 := Aside0.mk (blk_below K4Y.out hb35)
         clear hb35
         refine ecall rfl rfl Tryd.func28 (by kernel_rfl) rfl (args := #[.string tw]) (by simp only [List.map_toArray, List.map_cons, List.map_nil, Act.eval] <;> rfl) (parse_all tw hts _) ?_
         rintro e W36 hpp
         rw [HPF.out] at hpp
         obtain ⟨vd, vk, rfl, hRd, hRk, hb36⟩ := hpp
         refine ⟨_, rfl, ?_⟩
         obtain ⟨A5, c5, rfl⟩ := Kd.R_slice hRd
         obtain ⟨A6, c6, rfl⟩ := Kd.R_slice hRk
         have HR5 := Aside0.mk hRd
         have HR6 := Aside0.mk hRk
         clear hRd hRk
         have Kg9_10_11_19_20_21_22_23_34_35_36 := Aside0.mk (blk_below Kg9_10_11_19_20_21_22_23_34_35.out hb36)
         have K4Y_35_36 := Aside0.mk (blk_below K4Y_35.out hb36)
         have HB36 := Aside0.mk (below_step HB35.out hb36)
         clear hb36
         simp only [Act.put, List.setIfInBounds_toArray, List.set_cons_zero, List.set_cons_succ]
         refine Flow.seqL (E := fun u v => Below u.heap.size u v) 2 3 [(some 59, []), (some 60, [0]), (some 58, [1]), (some 61, [2]), (some 62, [2]), (some 5, []), (none, [5, 3, 1, 0, 1, 2, 3, 5]), (some 6, [4, 6, 0, 1, 2, 3, 4, 5, 6])] (fun iQ vQ wQ => match iQ with | 2 => vQ = (.tuple #[.agg #[.int .i64 y.kind, .int .i64 y.cmd, .int .i64 y.zone, .int .i64 y.at_, .int .i64 y.n, .slice A5 y.data.length c5, .bool y.fua, .int .i64 y.m, .int .i64 y.k, .slice A6 y.keep.length c6], .bool true]) | 3 => vQ = (.agg #[.int .i64 y.kind, .int .i64 y.cmd, .int .i64 y.zone, .int .i64 y.at_, .int .i64 y.n, .slice A5 y.data.length c5, .bool y.fua, .int .i64 y.m, .int .i64 y.k, .slice A6 y.keep.length c6]) | 4 => vQ = (.bool true) | _ => True) rfl (by decide) (by kernel_rfl) (Below.refl _ _) (fun _ _ _ h k => h.trans (k.mono h.size)) (fun _ _ _ _ h _ => h) ?_ ?_
         ·refine ⟨?_, ?_, ?_, trivial⟩
          ·intro a w' hx hu hd K hK; have e60 : a.tmps.getD 60 undef = (.tuple #[.agg #[.int .i64 y.kind, .int .i64 y.cmd, .int .i64 y.zone, .int .i64 y.at_, .int .i64 y.n, .slice A5 y.data.length c5, .bool y.fua, .int .i64 y.m, .int .i64 y.k, .slice A6 y.keep.length c6], .bool true]) := hu 60 rfl; exact Flow.run1 rfl (Flow.r_move rfl e60) (hK _ _ (Below.refl _ _) rfl)
          ·intro a w' hx hu hd K hK; have e58 := Flow.got (hd 2 rfl) 58 rfl; exact Flow.run1 rfl (extr rfl e58 rfl) (hK _ _ (Below.refl _ _) rfl)
          ·intro a w' hx hu hd K hK; have e58 := Flow.got (hd 2 rfl) 58 rfl; exact Flow.run1 rfl (extr rfl e58 rfl) (hK _ _ (Below.refl _ _) rfl)
         intro vs W37 hb37 hT
         have v2 := Flow.eqn (hT 2 (by decide) (by decide))
         have v3 := Flow.eqn (hT 3 (by decide) (by decide))
         have v4 := Flow.eqn (hT 4 (by decide) (by decide))
         simp only [Flow.putsT, v2, v3, v4, Act.put, List.setIfInBounds_toArray, List.set_cons_zero, List.set_cons_succ, List.drop_succ_cons, List.drop_zero, List.take_succ_cons, List.take_zero]
         clear hT v2 v3 v4
         have HB37 := Aside0.mk (below_step HB36.out hb37)
         have HR5_37 := Aside0.mk (Kd.R_below HR5.out hb37)
         have HR6_37 := Aside0.mk (Kd.R_below HR6.out hb37)
         have Kg9_10_11_19_20_21_22_23_34_35_36_37 := Aside0.mk (blk_below Kg9_10_11_19_20_21_22_23_34_35_36.out hb37)
         have K4Y_35_36_37 := Aside0.mk (blk_below K4Y_35_36.out hb37)
         clear hb37
         refine ealloc rfl rfl zero56_is ?_
         intro g38 hg38 W38 hk38 hb38
         have Kg38 := Aside0.mk hk38
         have Ng38_g9 := Aside0.mk (show g9 ≠ g38 by have := (Array.getElem?_eq_some_iff.1 Kg9_10_11_19_20_21_22_23_34_35_36_37.out).1; omega)
         have Ng9_g38 := Aside0.mk (Ne.symm Ng38_g9.out)
         have Ng38_g22 := Aside0.mk (show g22 ≠ g38 by have := (Array.getElem?_eq_some_iff.1 K4Y_35_36_37.out).1; omega)
         have Ng22_g38 := Aside0.mk (Ne.symm Ng38_g22.out)
         have HB38 := Aside0.mk (below_step HB37.out hb38)
         have HR5_38 := Aside0.mk (Kd.R_below HR5_37.out hb38)
         have HR6_38 := Aside0.mk (Kd.R_below HR6_37.out hb38)
         have Kg9_10_11_19_20_21_22_23_34_35_36_37_38 := Aside0.mk (blk_below Kg9_10_11_19_20_21_22_23_34_35_36_37.out hb38)
         have K4Y_35_36_37_38 := Aside0.mk (blk_below K4Y_35_36_37.out hb38)
         clear hb38
         have Gg38 := Aside0.mk (show w.heap.size ≤ g38 by rw [hg38]; exact HB37.out.size)
         clear hg38 hk38
         simp only [Act.put, List.setIfInBounds_toArray, List.set_cons_zero, List.set_cons_succ]
         refine Cells.store_whole rfl rfl 56 _ _ rfl g38 [.int .i64 y.kind, .int .i64 y.cmd, .int .i64 y.zone, .int .i64 y.at_, .int .i64 y.n, .slice A5 y.data.length c5, .bool y.fua, .int .i64 y.m, .int .i64 y.k, .slice A6 y.keep.length c6] #[.int .i64 0, .int .i64 0, .int .i64 0, .int .i64 0, .int .i64 0, .slice none 0 0, .bool false, .int .i64 0, .int .i64 0, .slice none 0 0] rfl rfl Kg38.out rfl size56 rfl ?_
         intro W39 hk39 hf39 hb39
         have HR5_39 := Aside0.mk (R_far HR5_38.out Kg38.out (by decide) hf39)
         have HR6_39 := Aside0.mk (R_far HR6_38.out Kg38.out (by decide) hf39)
         have HB39 := Aside0.mk (HB38.out.trans (hb39 _ Gg38.out))
         have Kg9_10_11_19_20_21_22_23_34_35_36_37_38_39 := Aside0.mk ((hf39 _ Ng38_g9.out).trans Kg9_10_11_19_20_21_22_23_34_35_36_37_38.out)
         have K4Y_35_36_37_38_39 := Aside0.mk ((hf39 _ Ng38_g22.out).trans K4Y_35_36_37_38.out)
         have Kg38_39 := Aside0.mk hk39
         clear hk39 hf39 hb39
         refine Flow.seqL (E := fun u v => Below u.heap.size u v) 7 1 [(some 59, []), (some 60, [0]), (some 58, [1]), (some 61, [2]), (some 62, [2]), (some 5, []), (none, [5, 3, 1, 0, 1, 2, 3, 5]), (some 6, [4, 6, 0, 1, 2, 3, 4, 5, 6])] (fun iQ vQ wQ => match iQ with | 7 => vQ = (.bool true) | _ => True) rfl (by decide) (by kernel_rfl) (Below.refl _ _) (fun _ _ _ h k => h.trans (k.mono h.size)) (fun _ _ _ _ h _ => h) ?_ ?_
         ·refine ⟨?_, trivial⟩
          ·intro a w' hx hu hd K hK; have e62 : a.tmps.getD 62 undef = (.bool true) := hu 62 rfl; exact Flow.run1 rfl (Flow.r_assign rfl e62) (hK _ _ (Below.refl _ _) rfl)
         intro vs W40 hb40 hT
         have v7 := Flow.eqn (hT 7 (by decide) (by decide))
         simp only [Flow.putsT, v7, Act.put, List.setIfInBounds_toArray, List.set_cons_zero, List.set_cons_succ, List.drop_succ_cons, List.drop_zero, List.take_succ_cons, List.take_zero]
         clear hT v7
         have HB40 := Aside0.mk (below_step HB39.out hb40)
         have HR5_40 := Aside0.mk (Kd.R_below HR5_39.out hb40)
         have HR6_40 := Aside0.mk (Kd.R_below HR6_39.out hb40)
         have Kg9_10_11_19_20_21_22_23_34_35_36_37_38_39_40 := Aside0.mk (blk_below Kg9_10_11_19_20_21_22_23_34_35_36_37_38_39.out hb40)
         have K4Y_35_36_37_38_39_40 := Aside0.mk (blk_below K4Y_35_36_37_38_39.out hb40)
         have Kg38_39_40 := Aside0.mk (blk_below Kg38_39.out hb40)
         clear hb40
         go_upto_region 10 with fail
         refine Flow.seqT (E := fun u v => Below u.heap.size u v) [(some 63, []), (some 64, [0]), (some 65, [1]), (some 66, [1]), (some 67, [2, 3, 1, 1]), (some 68, [1, 4]), (some 69, [5, 4]), (some 70, [6, 6]), (some 71, [6, 7]), (some 2, [8, 7, 0, 1, 2, 3, 4, 5, 6, 7, 8])] (fun iQ vQ wQ => match iQ with | 0 => vQ = (.bool true) | 1 => vQ = (.bool true) | 2 => vQ = (.agg #[.int .i64 y.kind, .int .i64 y.cmd, .int .i64 y.zone, .int .i64 y.at_, .int .i64 y.n, .slice A5 y.data.length c5, .bool y.fua, .int .i64 y.m, .int .i64 y.k, .slice A6 y.keep.length c6]) | 3 => vQ = (.agg #[.int .i64 y.kind, .int .i64 y.cmd, .int .i64 y.zone, .int .i64 y.at_, .int .i64 y.n, .slice A3 y.data.length c3, .bool y.fua, .int .i64 y.m, .int .i64 y.k, .slice A4 y.keep.length c4]) | 4 => vQ = (.bool true) | 5 => vQ = (.bool true) | 6 => vQ = (.bool true) | 7 => vQ = (.bool true) | 8 => vQ = (.bool true) | 9 => vQ = (.bool true) | _ => True) rfl (by kernel_rfl) (Below.refl _ _) (fun _ _ _ h k => h.trans (k.mono h.size)) (fun _ _ _ _ h _ => h) ?_ ?_
         ·refine ⟨?_, ?_, ?_, ?_, ?_, ?_, ?_, ?_, ?_, ?_, trivial⟩
          ·intro a w' hx hu hd K hK; have e6 : a.tmps.getD 6 undef = (.bool true) := hu 6 rfl; exact Flow.run1 rfl (Flow.r_move rfl e6) (hK _ _ (Below.refl _ _) rfl)
          ·intro a w' hx hu hd K hK; have e63 := Flow.got (hd 0 rfl) 63 rfl; exact Flow.run1 rfl (Flow.r_move rfl e63) (hK _ _ (Below.refl _ _) rfl)
          ·intro a w' hx hu hd K hK; have e5 : a.tmps.getD 5 undef = (.pointer (some ⟨g38, 0, none⟩)) := hu 5 rfl; have e64 := Flow.got (hd 1 rfl) 64 rfl; exact Flow.run1 (Flow.want_of (k := 64) rfl e64) (ldrow rfl e5 (lies_block (blk_below Kg38_39_40.out hx)) Tryd.underlying56 rfl size56) (hK _ _ (Below.refl _ _) rfl)
          ·intro a w' hx hu hd K hK; have e4 : a.tmps.getD 4 undef = (.pointer (some ⟨g22, 0, none⟩)) := hu 4 rfl; have e64 := Flow.got (hd 1 rfl) 64 rfl; exact Flow.run1 (Flow.want_of (k := 64) rfl e64) (ldrow rfl e4 (lies_block (blk_below K4Y_35_36_37_38_39_40.out hx)) Tryd.underlying56 rfl size56) (hK _ _ (Below.refl _ _) rfl)
          ·intro a w' hx hu hd K hK; have e65 := Flow.got (hd 2 rfl) 65 rfl; have e66 := Flow.got (hd 3 rfl) 66 rfl; have e64 := Flow.got (hd 1 rfl) 64 rfl; refine Flow.want (Flow.want_of (k := 64) rfl e64) ?_; refine Flow.val_call rfl Tryd.func32 (by kernel_rfl) rfl (by simp only [List.map_toArray, List.map_cons, List.map_nil, Act.eval, e65, e66] <;> rfl) (same_c y A5 A6 A3 A4 c5 c6 c3 c4 w' (Kd.R_reads' (Kd.R_below HR5_40.out hx)).2.2 (Kd.R_reads' (Kd.R_below HR6_40.out hx)).2.2 (Kd.C_below HC3.out (below_step HB40.out hx)) (Kd.C_below HC4.out (below_step HB40.out hx))) ?_; rintro e w2 ⟨rfl, hb2⟩; exact ⟨_, rfl, hK _ _ hb2 rfl⟩
          ·intro a w' hx hu hd K hK; have e64 := Flow.got (hd 1 rfl) 64 rfl; have e67 := Flow.got (hd 4 rfl) 67 rfl; exact Flow.run1 rfl (Flow.r_pick rfl e64 e67) (hK _ _ (Below.refl _ _) rfl)
          ·intro a w' hx hu hd K hK; have e68 := Flow.got (hd 5 rfl) 68 rfl; exact Flow.run1 rfl (Flow.r_move rfl e68) (hK _ _ (Below.refl _ _) rfl)
          ·intro a w' hx hu hd K hK; have e69 := Flow.got (hd 6 rfl) 69 rfl; refine Flow.want (Flow.want_of (k := 69) rfl e69) ?_; refine Flow.val_call rfl Tryd.func27 (by kernel_rfl) rfl (by simp only [List.map_toArray, List.map_cons, List.map_nil, Act.eval] <;> rfl) (live_c w') ?_; rintro e w2 ⟨rfl, hb2⟩; exact ⟨_, rfl, hK _ _ hb2 rfl⟩
          ·intro a w' hx hu hd K hK; have e69 := Flow.got (hd 6 rfl) 69 rfl; have e70 := Flow.got (hd 7 rfl) 70 rfl; exact Flow.run1 rfl (Flow.r_pick rfl e69 e70) (hK _ _ (Below.refl _ _) rfl)
          ·intro a w' hx hu hd K hK; have e71 := Flow.got (hd 8 rfl) 71 rfl; exact Flow.run1 rfl (Flow.r_assign rfl e71) (hK _ _ (Below.refl _ _) rfl)
         intro vs W41 hb41 hT
         have v0 := Flow.eqn (hT 0 (by decide))
         have v1 := Flow.eqn (hT 1 (by decide))
         have v2 := Flow.eqn (hT 2 (by decide))
         have v3 := Flow.eqn (hT 3 (by decide))
         have v4 := Flow.eqn (hT 4 (by decide))
         have v5 := Flow.eqn (hT 5 (by decide))
         have v6 := Flow.eqn (hT 6 (by decide))
         have v7 := Flow.eqn (hT 7 (by decide))
         have v8 := Flow.eqn (hT 8 (by decide))
         have v9 := Flow.eqn (hT 9 (by decide))
         simp only [Flow.putsT, v0, v1, v2, v3, v4, v5, v6, v7, v8, v9, Act.put, List.setIfInBounds_toArray, List.set_cons_zero, List.set_cons_succ]
         clear hT v0 v1 v2 v3 v4 v5 v6 v7 v8 v9
         have HB41 := Aside0.mk (below_step HB40.out hb41)
         have HR5_41 := Aside0.mk (Kd.R_below HR5_40.out hb41)
         have HR6_41 := Aside0.mk (Kd.R_below HR6_40.out hb41)
         have Kg9_10_11_19_20_21_22_23_34_35_36_37_38_39_40_41 := Aside0.mk (blk_below Kg9_10_11_19_20_21_22_23_34_35_36_37_38_39_40.out hb41)
         have K4Y_35_36_37_38_39_40_41 := Aside0.mk (blk_below K4Y_35_36_37_38_39_40.out hb41)
         have Kg38_39_40_41 := Aside0.mk (blk_below Kg38_39_40.out hb41)
         clear hb41
         go_wp2_with fail
         exact bodyPost_ret (results_tmp Tryd.results7 _ _ _) rfl ⟨rfl, HB41.out⟩
end Go.Proofs.YtlhmpmmblnbmbaaDoor.Con
namespace Go.Proofs.YtlhmpmmblnbmbaaDoor.Open
open Go.RowKit Go.Proofs.YtlhmpmmblnbmbaaDoorW.PrintWords
/-- Whatever reads as a value of type t is the cells of some Lean value of the kind, and that one is good. -/
def Opens {α : Type} (P : Program) (t : TypeId) (d : Kd α) (g : α → Prop) : Prop :=
  P.cellsOf t = d.sz ∧ ∀ {H : Type} (enc : TypeId × Value → H) (w : World) (base : Nat) (spare : Nat → Bool) (held : Bool) (fuel : Nat) (cs : List Value) (x : DataW H × List MemPlace),
    DataW.trod enc P w base spare held fuel t cs = some x → ∃ a, d.K w a cs ∧ g a
section
variable {P : Program} {t : TypeId}
theorem opens_int {k : IntKind} (ht : P.underlying t = some (.int k)) (hc : P.cellsOf t = 1) : Opens P t (Kd.int k) (fun n => (Lit.int k n).wf = true) := by
  refine ⟨hc, fun enc w base spare held fuel cs x h => ?_⟩
  obtain ⟨n, rfl, _, hw⟩ := DataW.trod_int ht h
  exact ⟨n, rfl, hw⟩
theorem opens_bool (ht : P.underlying t = some .bool) (hc : P.cellsOf t = 1) : Opens P t Kd.bool (fun _ => True) := by
  refine ⟨hc, fun enc w base spare held fuel cs x h => ?_⟩
  obtain ⟨n, rfl, _⟩ := DataW.trod_bool ht h
  exact ⟨n, rfl, trivial⟩
theorem choose_list {β : Type} (Q : Nat → β → Prop) : ∀ n, (∀ i, i < n → ∃ b, Q i b) → ∃ l : List β, l.length = n ∧ ∀ i b, l[i]? = some b → Q i b
  | 0, _ => ⟨[], rfl, fun i b h => by simp at h⟩
  | n + 1, h => by
    obtain ⟨l, hl, hq⟩ := choose_list Q n (fun i hi => h i (by omega))
    obtain ⟨b, hb⟩ := h n (by omega)
    refine ⟨l ++ [b], by simp [hl], fun i c hc => ?_⟩
    by_cases hi : i < n
    · rw [List.getElem?_append_left (by omega)] at hc
      exact hq i c hc
    · rw [List.getElem?_append_right (by omega)] at hc
      have e : i = n := by
        have := (List.getElem?_eq_some_iff.1 hc).1
        simp at this; omega
      subst e
      simp [hl] at hc
      exact hc ▸ hb
theorem opens_slice {α : Type} {e : TypeId} {d : Kd α} {g : α → Prop} (ht : P.underlying t = some (.slice e)) (hc : P.cellsOf t = 1) (he : Opens P e d g) :
    Opens P t (Kd.slice e d) (fun xs => xs.length ≤ maxLen ∧ ∀ x ∈ xs, g x) := by
  refine ⟨hc, fun enc w base spare held fuel cs x h => ?_⟩
  rcases DataW.trod_slice ht h with ⟨rfl, _⟩ | ⟨a, len, cap, elems, rest, n, rfl, rfl, _, _, hlc, hcm, hel, hget, _, _⟩
  · exact ⟨[], ⟨none, 0, rfl, by simp, Kd.C_nil _ _⟩, by simp [maxLen], by simp⟩
  · have hq : ∀ i, i < len → ∃ b : α, g b ∧ ∃ c, c.length = d.sz ∧ d.K w b c ∧ ∀ j u, c[j]? = some u → w.cell? (a.add (i * d.sz + j)) = some u := by
      intro i hi
      have hi2 := hget i hi
      rw [List.getElem?_eq_getElem (by omega), Option.bind_eq_some_iff] at hi2
      obtain ⟨c, hcells, htr⟩ := hi2
      obtain ⟨b, hb, hg⟩ := he.2 enc w base spare held n c _ htr
      obtain ⟨_, hlen, hcl⟩ := World.cells?_some hcells
      refine ⟨b, hg, c, by rw [hlen, he.1], hb, fun j u hu => ?_⟩
      have hj := (List.getElem?_eq_some_iff.1 hu).1
      have := hcl j (by omega)
      rw [he.1] at this
      rw [← hu, ← this]
      rw [add_add]
    obtain ⟨l, hl, hlq⟩ := choose_list _ len hq
    refine ⟨l, ⟨some a, cap, by rw [hl], by omega, rfl, by unfold maxLen at hcm; omega, fun _ => ⟨a, rfl, fun j p hp => (hlq j p hp).2⟩⟩, by omega, fun x hx => ?_⟩
    obtain ⟨j, hj⟩ := List.getElem?_of_mem hx
    exact (hlq j x hj).1
/-- Fields in line, from a place on. -/
structure OpensFs {α : Type} (P : Program) (fs : List Field) (off : Nat) (d : Kd α) (g : α → Prop) : Prop where
  go : ∀ {H : Type} (enc : TypeId × Value → H) (w : World) (base : Nat) (spare : Nat → Bool) (held : Bool) (fuel : Nat) (cs : List Value) , cs.length = off + d.sz →
    (∀ f ∈ fs, ∃ y, DataW.trod enc P w base spare held fuel f.type ((cs.drop f.offset).take (P.cellsOf f.type)) = some y) → ∃ a, d.K w a (cs.drop off) ∧ g a
theorem fs_last {α : Type} {f : Field} {off : Nat} {d : Kd α} {g : α → Prop} (ho : f.offset = off) (he : Opens P f.type d g) : OpensFs P [f] off d g := by
  constructor; intro H enc w base spare held fuel cs hl h
  obtain ⟨y, hy⟩ := h f (by simp)
  obtain ⟨a, ha, hg⟩ := he.2 enc w base spare held fuel _ y hy
  rw [ho, he.1, List.take_of_length_le (by rw [List.length_drop]; omega)] at ha
  exact ⟨a, ha, hg⟩
theorem fs_cons {α β : Type} {f : Field} {fs : List Field} {off off' : Nat} {d : Kd α} {d' : Kd β} {g : α → Prop} {g' : β → Prop} (ho : f.offset = off) (hn : off' = off + d.sz) (he : Opens P f.type d g) (hr : OpensFs P fs off' d' g') :
    OpensFs P (f :: fs) off (Kd.pair d d') (fun x => g x.1 ∧ g' x.2) := by
  constructor; intro H enc w base spare held fuel cs hl h
  obtain ⟨y, hy⟩ := h f (by simp)
  obtain ⟨a, ha, hg⟩ := he.2 enc w base spare held fuel _ y hy
  have hl' : cs.length = off' + d'.sz := by rw [hl, hn]; show off + (d.sz + d'.sz) = _; omega
  obtain ⟨b, hb, hg'⟩ := hr.go enc w base spare held fuel cs hl' (fun f hf => h f (by simp [hf]))
  refine ⟨(a, b), ⟨_, _, ?_, ha, hb⟩, hg, hg'⟩
  rw [ho, he.1, hn, ← List.drop_drop, List.take_append_drop]
theorem opens_struct {α : Type} {fs : Array Field} {d : Kd α} {g : α → Prop} (ht : P.underlying t = some (.struct fs)) (hc : P.cellsOf t = d.sz) (h : OpensFs P fs.toList 0 d g) : Opens P t d g := by
  refine ⟨hc, fun enc w base spare held fuel cs x hx => ?_⟩
  obtain ⟨xs, n, rfl, _, hl, hn, hget⟩ := DataW.trod_struct ht hx
  have := h.go enc w base spare held n cs (by rw [hl, hc]; omega) (fun f hf => by
    obtain ⟨i, hi⟩ := List.getElem?_of_mem hf
    have h2 := hget i f (by simpa using hi)
    have hlt : i < xs.length := by
      have := (List.getElem?_eq_some_iff.1 hi).1
      simp at this; omega
    rw [List.getElem?_eq_getElem hlt] at h2
    exact ⟨_, h2⟩)
  simpa using this
/-- A structure that one makes of its fields. -/
theorem opens_iso {α β : Type} {d : Kd α} {g : α → Prop} {f : β → α} (mk : α → β) (hm : ∀ a, f (mk a) = a) (h : Opens P t d g) : Opens P t (Kd.iso d f) (fun b => g (f b)) := by
  refine ⟨h.1, fun enc w base spare held fuel cs x hx => ?_⟩
  obtain ⟨a, ha, hg⟩ := h.2 enc w base spare held fuel cs x hx
  refine ⟨mk a, ?_, by show g (f (mk a)); rw [hm]; exact hg⟩
  show d.K w (f (mk a)) cs
  rw [hm]; exact ha
end
/-- All that the arguments read as reads on so, behind a call that left old memory alone. -/
theorem args_stay {H : Type} {enc : TypeId × Value → H} {P : Program} (hl : laidOutB P = true) {W W' : World} : ∀ {ts : List TypeId} {vs : List Value} {ds : List (DataW H)} {ps : List MemPlace},
    (ts.all fun t => P.readableRec t && decide (t < P.types.size)) = true → DataW.TrodAll enc P W 0 (fun _ => true) true ts vs ds ps → Below W.heap.size W W' → DataW.TrodAll enc P W' 0 (fun b => decide (b < W.heap.size)) true ts vs ds ps
  | [], [], [], _, _, h, _ => h
  | t :: ts, v :: vs, d :: ds, _, hr, ⟨p, q, h1, h2, e⟩, hb => by
    simp only [List.all_cons, Bool.and_eq_true, decide_eq_true_eq] at hr
    have hlt := DataW.TrodAll.lt (show DataW.TrodAll enc P W 0 (fun _ => true) true (t :: ts) (v :: vs) (d :: ds) _ from ⟨p, q, h1, h2, rfl⟩)
    exact ⟨p, q, Below.trod hl hr.1.1 hr.1.2 h1 hb (fun x hx => hlt x (List.mem_append_left _ hx)), args_stay hl hr.2 h2 hb, e⟩
section
open Go.WideShapes
variable {H : Type} {enc : TypeId × Value → H} {P : Program} {w : World} {base b0 : Nat} {spare : Nat → Bool} {held : Bool} {r : Reach} {t : TypeId} {v : Value} {dd : DataW H} {ps : List MemPlace}
/-- An argument that is a struct. -/
theorem arg_struct {α : Type} {fs : Array Field} {d : Kd α} {g : α → Prop} (ht : P.underlying t = some (.struct fs)) (ho : Opens P t d g) (hval : Value.okWide P w r b0 t v) (h : DataW.Trod enc P w base spare held t v dd ps) :
    ∃ (a : α) (cs : List Value), v = .agg cs.toArray ∧ d.K w a cs ∧ g a := by
  obtain ⟨cs, rfl, _⟩ := okWide_struct ht hval
  obtain ⟨fuel, hf⟩ := h
  obtain ⟨a, ha, hg⟩ := ho.2 enc w base spare held fuel _ _ hf
  exact ⟨a, cs.toList, by simp, ha, hg⟩
end
end Go.Proofs.YtlhmpmmblnbmbaaDoor.Open
namespace Go.Proofs.YtlhmpmmblnbmbaaDoor.consoleFormats
open Go.RowKit
open Go.Proofs.YtlhmpmmblnbmbaaDoor.PConsoleParses Go.Proofs.YtlhmpmmblnbmbaaDoorW.PrintWords Go.Proofs.YtlhmpmmblnbmbaaDoorW.PrintLast Go.Proofs.YtlhmpmmblnbmbaaDoorW.PrintMore Go.Proofs.YtlhmpmmblnbmbaaDoor.Open
set_option linter.unusedVariables false
open Go.Proofs.YtlhmpmmblnbmbaaDoor.Con Go.Proofs.YtlhmpmmblnbmbaaDoor.Rep Go.Lib
set_option maxRecDepth 100000
theorem o3 : Opens Tryd.prog 3 (Kd.int .i64) (fun x => (Lit.int .i64 x).wf = true) := opens_int Tryd.underlying3 (by kernel_rfl)
theorem o5 : Opens Tryd.prog 5 (Kd.int .u8) (fun x => (Lit.int .u8 x).wf = true) := opens_int Tryd.underlying5 (by kernel_rfl)
theorem o43 : Opens Tryd.prog 43 (Kd.slice 5 (Kd.int .u8)) (fun x => (x.length ≤ maxLen ∧ ∀ y0 ∈ x, (Lit.int .u8 y0).wf = true)) := opens_slice Tryd.underlying43 (by kernel_rfl) o5
theorem o4 : Opens Tryd.prog 4 Kd.bool (fun _ => True) := opens_bool Tryd.underlying4 (by kernel_rfl)
def G54 (x : S54) : Prop := (Lit.int .i64 x.f0).wf = true ∧ (Lit.int .i64 x.f1).wf = true ∧ (Lit.int .i64 x.f2).wf = true ∧ (Lit.int .i64 x.f3).wf = true ∧ (x.f4.length ≤ maxLen ∧ ∀ y0 ∈ x.f4, (Lit.int .u8 y0).wf = true) ∧ True
theorem o54 : Opens Tryd.prog 54 k54 G54 :=
  opens_iso (f := fun x : S54 => (x.f0, x.f1, x.f2, x.f3, x.f4, x.f5)) (fun (a : (Int) × (Int) × (Int) × (Int) × (List (Int)) × (Bool)) => (⟨a.1, a.2.1, a.2.2.1, a.2.2.2.1, a.2.2.2.2.1, a.2.2.2.2.2⟩ : S54)) (fun _ => rfl) (opens_struct Tryd.underlying54 (by kernel_rfl) (fs_cons rfl rfl o3 (fs_cons rfl rfl o3 (fs_cons rfl rfl o3 (fs_cons rfl rfl o3 (fs_cons rfl rfl o43 (fs_last rfl o4)))))))
def G56 (x : S56) : Prop := (Lit.int .i64 x.f0).wf = true ∧ G54 x.f1 ∧ (Lit.int .i64 x.f2).wf = true ∧ (Lit.int .i64 x.f3).wf = true ∧ (x.f4.length ≤ maxLen ∧ ∀ y0 ∈ x.f4, (Lit.int .u8 y0).wf = true)
theorem o56 : Opens Tryd.prog 56 k56 G56 :=
  opens_iso (f := fun x : S56 => (x.f0, x.f1, x.f2, x.f3, x.f4)) (fun (a : (Int) × (S54) × (Int) × (Int) × (List (Int))) => (⟨a.1, a.2.1, a.2.2.1, a.2.2.2.1, a.2.2.2.2⟩ : S56)) (fun _ => rfl) (opens_struct Tryd.underlying56 (by kernel_rfl) (fs_cons rfl rfl o3 (fs_cons rfl rfl o54 (fs_cons rfl rfl o3 (fs_cons rfl rfl o3 (fs_last rfl o43))))))
end Go.Proofs.YtlhmpmmblnbmbaaDoor.consoleFormats
namespace Go.Proofs.YtlhmpmmblnbmbaaDoor.Rep
open Go.Lib
theorem pow_g : Tryd.prog.globalNamed "internal/strconv.uint64pow10" = some 1 := by kernel_rfl
theorem pow_t : (Tryd.prog.globals[1]?).map (·.type) = some 138 := by kernel_rfl
theorem pow_e : Tryd.prog.cellsOf 110 = 1 := by kernel_rfl
theorem pow_c : Tryd.prog.cellsOf 138 = 20 := by kernel_rfl
theorem pow_d : (Rows.laid_internal_strconv_uint64pow10 : DataW Unit) = tabData .u64 pow10Tab := rfl
theorem pow_of {W : World} (h : laidMetH Tryd.prog [("math/bits.deBruijn32tab", Rows.laid_math_bits_deBruijn32tab), ("math/bits.deBruijn64tab", Rows.laid_math_bits_deBruijn64tab), ("internal/strconv.uint64pow10", Rows.laid_internal_strconv_uint64pow10)] W) : POW W := by
  rw [MakeChecks.laidMetH_plain _ _ _ (by kernel_rfl)] at h
  have h2 := laidMet.tail (laidMet.tail h)
  rw [pow_d] at h2
  exact tabIs_of_head pow_g pow_t Tryd.underlying138 Tryd.underlying110 pow_e pow_c h2
end Go.Proofs.YtlhmpmmblnbmbaaDoor.Rep
namespace Go.Proofs.YtlhmpmmblnbmbaaDoor.consoleFormats
open Go.ChangeShapes Go.WideShapes Go.ChangeAt Go.RowKit
open Go.ChangeMaps (open_string shut_string)
open Go.Proofs.YtlhmpmmblnbmbaaDoor.PConsoleParses Go.Proofs.YtlhmpmmblnbmbaaDoorW.PrintWords Go.Proofs.YtlhmpmmblnbmbaaDoorW.PrintLast Go.Proofs.YtlhmpmmblnbmbaaDoorW.PrintMore Go.Proofs.YtlhmpmmblnbmbaaDoor.Open
set_option linter.unusedVariables false
open Go.Proofs.YtlhmpmmblnbmbaaDoor.Con Go.Proofs.YtlhmpmmblnbmbaaDoor.Rep Go.Lib
theorem own : ownKnob Tryd.prog.godebug = none := by kernel_rfl
theorem laid : laidOutB Tryd.prog = true := by kernel_rfl
theorem reads : (Tryd.f7.params.toList.all fun t => Tryd.prog.readableRec t && decide (t < Tryd.prog.types.size)) = true := by kernel_rfl
set_option maxRecDepth 100000 in
set_option maxHeartbeats 4000000 in
theorem lifted (os : Os) (started : os.Started) (H : Type) (enc : TypeId × Value → H) :
    ReturnsInHanded {} Tryd.checked os 7 .any (fun w args => (Rows.consoleFormatsSpec.pre enc Tryd.prog Tryd.f7 Rows.consoleFormatsRow.domain false w args ∧ laidMetH Tryd.prog Rows.consoleFormatsRow.laid w) ∧ sizedMet enc Tryd.prog Tryd.f7 (OpenSpec.ofChange Rows.consoleFormatsSpec) false w args) (Rows.consoleFormatsSpec.post enc Tryd.prog Tryd.f7 false true false false) := by
  refine returnsInHanded_of_change_and (C := Tryd.checked) (X := fun w _ => laidMetH Tryd.prog Rows.consoleFormatsRow.laid w) (fun _ _ _ hh h => h.of_heap hh) own started (by kernel_rfl) Tryd.func7
    (ChangeSpec.witness_shaped (enc := enc) (C := Tryd.checked) (os := os) (X := fun w _ => laidMetH Tryd.prog Rows.consoleFormatsRow.laid w) false (World.laidAll Tryd.prog os Rows.consoleFormatsRow.laid) #[.agg #[.int .i64 0, .int .i64 0, .int .i64 0, .int .i64 0, .int .i64 0, .slice none 0 0, .bool false, .int .i64 0, .int .i64 0, .slice none 0 0]] 8 (World.laidAll_os _ _ _)
      (World.shaped_of_ZipB (by kernel_rfl) (by kernel_rfl)) (by kernel_rfl) (by kernel_rfl) (by kernel_rfl)
      (by rw [MakeChecks.laidMetH_plain _ _ _ (by kernel_rfl)]; exact laidMet_laidAll _ (by kernel_rfl) (by kernel_rfl))) ?_
  intro W base args ds gs before hval0 hW hcnd hsz0 hL _
  have hsz : (DataW.weightsEach Tryd.prog (Tryd.f7.params.toList ++ Rows.consoleFormatsSpec.plain.varTypes Tryd.prog) (ds ++ gs)).all (· ≤ reachBytes) = true := hsz0
  have hval : ∀ (j : Nat) t v, Tryd.f7.params[j]? = some t → args[j]? = some v → Value.okWide Tryd.prog W .any base t v := hval0
  have hW' := hW
  obtain ⟨p, q, hA0, hV, rfl, hfz, hnd⟩ := hW
  have hA : DataW.TrodAll enc Tryd.prog W 0 (fun _ => true) true Tryd.f7.params.toList args.toList ds p := hA0
  have hA2 := hA
  rw [Tryd.params7] at hA hval hsz
  obtain ⟨v0, vs0, d0, ds0, p0, q0, hargs, rfl, rfl, h0, r0⟩ := trodAll_cons hA
  obtain ⟨rfl, rfl, rfl⟩ := trodAll_nil r0
  obtain rfl : args = #[v0] := by cases args; simp_all
  obtain ⟨rfl, rfl⟩ := trodVars_none hV
  obtain ⟨a0, cs0, rfl, hk0, g0⟩ := arg_struct Tryd.underlying56 o56 (hval 0 56 v0 rfl rfl) h0
  obtain ⟨A0_5, c0_5, A0_9, c0_9, rfl, hc0_5, hr0_5, hc0_9, hr0_9⟩ := k56_open hk0
  clear hA0 hval0 hsz0 hsz
  have hpow := pow_of hL
  refine (Con.lawformats_c ⟨a0.f0, a0.f1.f0, a0.f1.f1, a0.f1.f2, a0.f1.f3, a0.f1.f4, a0.f1.f5, a0.f2, a0.f3, a0.f4⟩ ⟨bounds_i64 g0.2.1.2.1, bounds_i64 g0.2.1.2.2.1, bounds_i64 g0.2.1.2.2.2.1, bounds_i64 g0.2.2.1, bounds_i64 g0.2.2.2.1, fun y hy => bounds_u8 (g0.2.1.2.2.2.2.1.2 y hy), fun y hy => bounds_u8 (g0.2.2.2.2.2 y hy)⟩ A0_5 A0_9 a0.f1.f4.length c0_5 a0.f4.length c0_9 rfl rfl W hr0_5 hr0_9 hpow).mono fun e W' ⟨he, bel⟩ => ?_
  subst he
  exact ⟨_, rfl, _, _, _, [], _, [], hW', trodAll_mk1 (shut_bool Tryd.underlying4 _), args_stay laid reads hA2 bel, rfl, bel.frame _, fun h => by cases h⟩
theorem over : Rows.consoleFormatsRow.holds Tryd.pinned (OpenSpec.ofChange Rows.consoleFormatsSpec) :=
  OpenClaim.holds_of_wide 7 Tryd.f7 rfl rfl rfl rfl rfl rfl rfl ⟨rfl, rfl, rfl, rfl, rfl⟩ rfl rfl rfl rfl rfl (by kernel_rfl) Tryd.func7 (by kernel_rfl)
    (of_decide_eq_true (by kernel_rfl)) (by unfold Func.isWrapper; first | (rw [if_pos (by decide +kernel)]; kernel_rfl) | (rw [if_neg (by decide +kernel)]; exact ⟨rfl, rfl⟩))
    (fun os started H enc _ => lifted os started H enc)
theorem proved : Rows.ConsoleFormatsSaid := over
/-- The tied card. -/
theorem card : Rows.ConsoleFormatsCardSaid :=
  Claim7.holds_tied_plain_at .later [] [.data, .data, .data] true (true, "9a8eeaf265d1964f626dea6041a18db30e6902f0d6d62871fe9f7aac8942600e") false
    proved (fun _ h => by cases h) (by kernel_rfl) (fun _ h => by cases h) consoleFormats_row_tie rfl ⟨rfl, rfl⟩ (by kernel_rfl) rfl
    (fun f fn hf hfn => by
      obtain rfl : f = 7 := Option.some.inj ((show Tryd.prog.funcNamed "revetment/revetmentlaw37.ConsoleFormats" = some 7 by kernel_rfl).symm.trans hf) |>.symm
      obtain rfl : fn = Tryd.f7 := (Option.some.inj (Tryd.func7.symm.trans hfn)).symm
      exact ⟨by kernel_rfl, fun j t ht => by
        rw [Tryd.params7] at ht
        have hm : t ∈ [56] := by simpa using Array.mem_of_getElem? ht
        have hall : ([56].all fun u => !Tryd.prog.wantsStandIn u) = true := by kernel_rfl
        exact (show Tryd.prog.wantsStandIn t = false by simpa using List.all_eq_true.1 hall t hm)⟩)
    (by kernel_rfl)
#print axioms card
end Go.Proofs.YtlhmpmmblnbmbaaDoor.consoleFormats
namespace Go.Proofs.YtlhmpmmblnbmbaaDoor
/-- The row, under a short name, for the claim. -/
theorem consoleFormats_holds : Rows.ConsoleFormatsCardSaid := consoleFormats.card
end Go.Proofs.YtlhmpmmblnbmbaaDoor
