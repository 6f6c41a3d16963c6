/- Own work and lines of the print, as much as consoleFormats_holds needs: part 5. -/
import Derived.Test.YtlhmpmmblnbmbaaDoorClmF4
import Derived.Shelf.Strings.Builder1
import Derived.Shelf.Strings.Builder2
import Derived.Shelf.Strings.OnBuilder
import Derived.Shelf.Small.Wraps
import Derived.Shelf.Strings.BuilderF
import Derived.Shelf.Strings.BuilderK
import Derived.Shelf.Utf8.RuneCount
import Derived.Shelf.Strings.Builder2Cap
import Derived.Shelf.Strconv.Itoa0
import Derived.Shelf.Strconv.Itoa1
import Derived.Shelf.LaysM
import Derived.Shelf.Strconv.Itoa2
import Derived.Shelf.Strconv.Itoa3
import Derived.Shelf.Strings.Search1
import Derived.Shelf.Strings.Search2
import Derived.Shelf.Strings.Search3
import Derived.Shelf.Strings.Count
import Derived.Shelf.Strings.Shaped
import Derived.Shelf.Strings.Prefix
import Derived.Shelf.Strings.Split
import Derived.Shelf.Strings.SplitShaped
import Derived.Shelf.Unicode.Decode
import Derived.Shelf.Strings.RuneCount
import Derived.Shelf.Strings.Explode
import Derived.Shelf.Unicode.DecodeSlow
import Derived.Shelf.Unicode.DecodeAny
import Derived.Test.YtlhmpmmblnbmbaaDoorProg
import Derived.Below
import Derived.Deep.Draws
import Derived.Deep.AppendLies
import Derived.Maps.AppendAt
import Derived.OwnWalk
import Derived.Laws.BytesArg
import Derived.Laws.MakeOwn
import Derived.Laws.OwnMore
import Derived.Deep.OwnRows
import Derived.Tactics
import Derived.Lib.ConvBytes
import Derived.Laws.Slices
import Derived.WalkKit
import Derived.KernelRfl
import Derived.RowKit3
import Derived.Deep.LoopGhost
import Derived.Deep.QuietTactic
import Derived.BigQuiet
import Derived.WideLaws
import Derived.Deep.DeepCutAuto
import Derived.Deep.CutBlock
import Derived.Deep.RegionHeld3
import Derived.Laws.Rows
import Derived.Lib.AppendStr
import Derived.ArgAppend
import Derived.Laws.IdiomCopy
import Derived.OrdersHeld
import Derived.Laws.BitsLemmas
import Derived.RowKit
import Derived.Lib.AppendIntMem
import Derived.Lib.ItoaLen
import Derived.Laws.DeepStrings4
set_option linter.unusedVariables false
set_option linter.unusedSimpArgs false
namespace Go.Proofs.YtlhmpmmblnbmbaaDoor.Con
open Go.Lib Go.RowKit Go.Proofs.YtlhmpmmblnbmbaaDoor.Ev Go.Proofs.YtlhmpmmblnbmbaaDoor.Ke Go.Proofs.YtlhmpmmblnbmbaaDoor.Cells Go.Proofs.YtlhmpmmblnbmbaaDoor.PConsoleParses Go.Proofs.YtlhmpmmblnbmbaaDoorW.PrintWords Go.Proofs.YtlhmpmmblnbmbaaDoorW.PrintLast Go.Proofs.YtlhmpmmblnbmbaaDoorW.PrintMore WordsPlain NumberPlain
theorem bld54_0_5 {o : Oper} {a : Act} {w : World} {x0 x5 : Operand} {c0 : Int} {c5 : Bool} (ho : o.op = .build 54 #[(0, x0), (5, x5)]) (h0 : a.eval x0 = .int .i64 c0) (h5 : a.eval x5 = .bool c5) : (execOp a.eval o).run Tryd.prog w = .ok (.value (.agg #[.int .i64 c0, .int .i64 0, .int .i64 0, .int .i64 0, .slice none 0 0, .bool c5])) w := by
 have hu54 := Tryd.underlying54
 have hu3 := Tryd.underlying3
 have hu43 := Tryd.underlying43
 have hu4 := Tryd.underlying4
 unfold execOp
 simp only [ho, List.map_toArray, List.map_cons, List.map_nil, h0, h5]
 clear ho h0 h5
 first
 | (go_simp; done)
 | (go_simp; rfl)
def n3 (x : A10) (j : Nat) : Int := match j with | 0 => (num3 x).1 | 1 => (num3 x).2.1 | _ => (num3 x).2.2
def cz (x : A10) (mn k j : Nat) : Int := if mn ≤ j ∧ j < k then 0 else n3 x j
def mz (x : A10) (mn j : Nat) : Int := if j < mn then n3 x j else 0
theorem cz_start (x : A10) (mn j : Nat) : cz x mn mn j = n3 x j := if_neg (by omega)
theorem cz_end (x : A10) {mn j : Nat} (hj : j < 3) : cz x mn 3 j = mz x mn j := by
 unfold cz mz
 by_cases h : j < mn
 ·rw [if_neg (by omega), if_pos h]
 ·rw [if_pos (by omega), if_neg h]
theorem cz_put {x : A10} {mn k : Nat} (hk : k < 3) (hm : mn ≤ k) : (#[.int .i64 (cz x mn k 0), .int .i64 (cz x mn k 1), .int .i64 (cz x mn k 2)] : Array Value).setIfInBounds (0 + k) (.int .i64 0) = #[.int .i64 (cz x mn (k + 1) 0), .int .i64 (cz x mn (k + 1) 1), .int .i64 (cz x mn (k + 1) 2)] := by
 have e : ∀ j, cz x mn (k + 1) j = if j = k then 0 else cz x mn k j := fun j => by
  unfold cz
  by_cases h : j = k
  ·subst h; rw [if_pos ⟨hm, Nat.lt_succ_self _⟩, if_pos rfl]
  ·rw [if_neg h]
   by_cases h2 : mn ≤ j ∧ j < k
   ·rw [if_pos h2, if_pos ⟨h2.1, by omega⟩]
   ·rw [if_neg h2, if_neg (by omega)]
 rw [e 0, e 1, e 2]
 match k, hk with
 | 0, _ => rfl
 | 1, _ => rfl
 | 2, _ => rfl
/-- The bytes that play a part. -/
def bP (i : Nat) (bb : Bool) (vd vk : Value) : Value := if bb = true then (if i = 0 then vd else vk) else .slice none 0 0
set_option maxHeartbeats 4000000 in
set_option maxRecDepth 100000 in
theorem rplain_c (x : A10) (Ad Ak : Option Addr) (nd cd nk ck : Nat) {i mn : Nat} {bb : Bool} {kd cm : Int} {F : List Value} (hidx : idxI x = (i : Int)) (hi : i < 15) (h1 : (frm i).2.2.1.length = mn) (h2 : (frm i).2.2.2.isSome = bb) (h3 : (frm i).1 = kd) (h4 : (frm i).2.1 = cm) (hF : fillC kd cm (decide (i = 0) && x.fua) (mz x mn 0) (mz x mn 1) (mz x mn 2) (bP i bb (.slice Ad nd cd) (.slice Ak nk ck)) = F) (w : World) : Calls Tryd.prog 36 #[.agg #[.int .i64 x.kind, .int .i64 x.cmd, .int .i64 x.zone, .int .i64 x.at_, .int .i64 x.n, .slice Ad nd cd, .bool x.fua, .int .i64 x.m, .int .i64 x.k, .slice Ak nk ck]] w fun e w' => e = .returned (.agg F.toArray) ∧ Below w.heap.size w w' := by
 have HIX := Aside0.mk hidx
 have HI := Aside0.mk hi
 have HM := Aside0.mk h1
 have HBB := Aside0.mk h2
 have HKD := Aside0.mk h3
 have HCM := Aside0.mk h4
 have HF := Aside0.mk hF
 have hm3 : mn ≤ 3 := h1 ▸ (frm_small ⟨i, hi⟩).1
 clear hidx hi h1 h2 h3 h4 hF
 obtain ⟨fb, HFB⟩ : ∃ q, Aside0 ((decide (i = 0) && x.fua) = q) := ⟨_, ⟨rfl⟩⟩
 rw [HFB.out] at HF
 obtain ⟨Ab, nb, cb, HVB⟩ : ∃ A n c, Aside0 (bP i bb (.slice Ad nd cd) (.slice Ak nk ck) = .slice A n c) := by unfold bP; split; split; exact ⟨_, _, _, ⟨rfl⟩⟩; exact ⟨_, _, _, ⟨rfl⟩⟩; exact ⟨_, _, _, ⟨rfl⟩⟩
 rw [HVB.out] at HF
 obtain ⟨m0, HM0⟩ : ∃ q, Aside0 (mz x mn 0 = q) := ⟨_, ⟨rfl⟩⟩
 obtain ⟨m1, HM1⟩ : ∃ q, Aside0 (mz x mn 1 = q) := ⟨_, ⟨rfl⟩⟩
 obtain ⟨m2, HM2⟩ : ∃ q, Aside0 (mz x mn 2 = q) := ⟨_, ⟨rfl⟩⟩
 rw [HM0.out, HM1.out, HM2.out] at HF
 go_enter Tryd.func36, Tryd.ntmps36
 go_upto_region 0 with fail
 refine wp_region_lit ?_
 refine ebox (v := (.agg #[.int .i64 x.kind, .int .i64 x.cmd, .int .i64 x.zone, .int .i64 x.at_, .int .i64 x.n, .slice Ad nd cd, .bool x.fua, .int .i64 x.m, .int .i64 x.k, .slice Ak nk ck])) rfl rfl rfl ?_
 intro g1 hg1 W1 hk1 hb1
 have Kg1 := Aside0.mk hk1
 have HB1 := Aside0.mk (hb1)
 clear hb1
 have Gg1 := Aside0.mk (show w.heap.size ≤ g1 by rw [hg1]; exact Nat.le_refl _)
 clear hg1 hk1
 simp only [Act.put, List.setIfInBounds_toArray, List.set_cons_zero, List.set_cons_succ]
 refine ealloc rfl rfl zero56_is ?_
 intro g2 hg2 W2 hk2 hb2
 have Kg2 := Aside0.mk hk2
 have Ng2_g1 := Aside0.mk (show g1 ≠ g2 by have := (Array.getElem?_eq_some_iff.1 Kg1.out).1; omega)
 have Ng1_g2 := Aside0.mk (Ne.symm Ng2_g1.out)
 have HB2 := Aside0.mk (below_step HB1.out hb2)
 have Kg1_2 := Aside0.mk (blk_below Kg1.out hb2)
 clear hb2
 have Gg2 := Aside0.mk (show w.heap.size ≤ g2 by rw [hg2]; exact HB1.out.size)
 clear hg2 hk2
 simp only [Act.put, List.setIfInBounds_toArray, List.set_cons_zero, List.set_cons_succ]
 go_upto_region 1 with fail
 refine Flow.seqT (E := fun u v => Below u.heap.size u v) [(some 13, []), (some 14, [0]), (some 3, [1, 1, 0, 1])] (fun iQ vQ wQ => match iQ with | 0 => vQ = (.agg #[.int .i64 x.kind, .int .i64 x.cmd, .int .i64 x.zone, .int .i64 x.at_, .int .i64 x.n, .slice Ad nd cd, .bool x.fua, .int .i64 x.m, .int .i64 x.k, .slice Ak nk ck]) | 1 => vQ = (.int .i64 i) | 2 => vQ = (.int .i64 i) | _ => True) rfl (by kernel_rfl) (Below.refl _ _) (fun _ _ _ h k => h.trans (k.mono h.size)) (fun _ _ _ _ h _ => h) ?_ ?_
 ·refine ⟨?_, ?_, ?_, trivial⟩
  ·intro a w' hx hu hd K hK; have e1 : a.tmps.getD 1 undef = (.pointer (some ⟨g1, 0, none⟩)) := hu 1 rfl; exact Flow.run1 rfl (ldrow rfl e1 (lies_block (blk_below Kg1_2.out hx)) Tryd.underlying56 rfl size56) (hK _ _ (Below.refl _ _) rfl)
  ·intro a w' hx hu hd K hK; have e13 := Flow.got (hd 0 rfl) 13 rfl; refine Flow.want rfl ?_; refine Flow.val_call rfl Tryd.func58 (by kernel_rfl) rfl (by simp only [List.map_toArray, List.map_cons, List.map_nil, Act.eval, e13] <;> rfl) (rindex_c x Ad Ak nd cd nk ck w') ?_; rintro e w2 ⟨rfl, hb2⟩; rw [HIX.out]; exact ⟨_, rfl, hK _ _ hb2 rfl⟩
  ·intro a w' hx hu hd K hK; have e14 := Flow.got (hd 1 rfl) 14 rfl; exact Flow.run1 rfl (Flow.r_assign rfl e14) (hK _ _ (Below.refl _ _) rfl)
 intro vs W3 hb3 hT
 have v0 := Flow.eqn (hT 0 (by decide))
 have v1 := Flow.eqn (hT 1 (by decide))
 have v2 := Flow.eqn (hT 2 (by decide))
 simp only [Flow.putsT, v0, v1, v2, Act.put, List.setIfInBounds_toArray, List.set_cons_zero, List.set_cons_succ]
 clear hT v0 v1 v2
 have HB3 := Aside0.mk (below_step HB2.out hb3)
 have Kg1_2_3 := Aside0.mk (blk_below Kg1_2.out hb3)
 have Kg2_3 := Aside0.mk (blk_below Kg2.out hb3)
 clear hb3
 go_upto_region 2 with fail
 refine Flow.seqT (E := fun u v => Below u.heap.size u v) [(some 15, []), (some 16, [0])] (fun iQ vQ wQ => match iQ with | 0 => vQ = (.int .i64 i) | 1 => vQ = (.bool false) | _ => True) rfl (by kernel_rfl) (Below.refl _ _) (fun _ _ _ h k => h.trans (k.mono h.size)) (fun _ _ _ _ h _ => h) ?_ ?_
 ·refine ⟨?_, ?_, trivial⟩
  ·intro a w' hx hu hd K hK; have e3 : a.tmps.getD 3 undef = (.int .i64 i) := hu 3 rfl; exact Flow.run1 rfl (Flow.r_move rfl e3) (hK _ _ (Below.refl _ _) rfl)
  ·intro a w' hx hu hd K hK; have e15 := Flow.got (hd 0 rfl) 15 rfl; exact Flow.run1 rfl (no (lss rfl e15 rfl) (decide_eq_false (by omega))) (hK _ _ (Below.refl _ _) rfl)
 intro vs W4 hb4 hT
 have v0 := Flow.eqn (hT 0 (by decide))
 have v1 := Flow.eqn (hT 1 (by decide))
 simp only [Flow.putsT, v0, v1, Act.put, List.setIfInBounds_toArray, List.set_cons_zero, List.set_cons_succ]
 clear hT v0 v1
 have HB4 := Aside0.mk (below_step HB3.out hb4)
 have Kg1_2_3_4 := Aside0.mk (blk_below Kg1_2_3.out hb4)
 have Kg2_3_4 := Aside0.mk (blk_below Kg2_3.out hb4)
 clear hb4
 go_upto_region 4 with fail
 refine Flow.seqT (E := fun u v => Below u.heap.size u v) [(some 19, []), (some 20, [0]), (some 18, [1]), (some 21, [2]), (some 22, [2]), (some 23, [2]), (some 24, [2]), (some 25, [2]), (some 4, [3, 1, 0, 1, 2, 3]), (some 5, [4, 8, 0, 1, 2, 3, 4, 8]), (some 6, [5, 9, 0, 1, 2, 3, 4, 5, 8, 9]), (some 7, [6, 10, 0, 1, 2, 3, 4, 5, 6, 8, 9, 10]), (some 8, [7, 11, 0, 1, 2, 3, 4, 5, 6, 7, 8, 9, 10, 11])] (fun iQ vQ wQ => match iQ with | 0 => vQ = (.int .i64 i) | 1 => vQ = (.tuple #[.string (wd i), .int .i64 mn, .bool bb, .int .i64 kd, .int .i64 cm]) | 2 => vQ = (.tuple #[.string (wd i), .int .i64 mn, .bool bb, .int .i64 kd, .int .i64 cm]) | 3 => vQ = (.string (wd i)) | 4 => vQ = (.int .i64 mn) | 5 => vQ = (.bool bb) | 6 => vQ = (.int .i64 kd) | 7 => vQ = (.int .i64 cm) | 8 => vQ = (.string (wd i)) | 9 => vQ = (.int .i64 mn) | 10 => vQ = (.bool bb) | 11 => vQ = (.int .i64 kd) | 12 => vQ = (.int .i64 cm) | _ => True) rfl (by kernel_rfl) (Below.refl _ _) (fun _ _ _ h k => h.trans (k.mono h.size)) (fun _ _ _ _ h _ => h) ?_ ?_
 ·refine ⟨?_, ?_, ?_, ?_, ?_, ?_, ?_, ?_, ?_, ?_, ?_, ?_, ?_, trivial⟩
  ·intro a w' hx hu hd K hK; have e3 : a.tmps.getD 3 undef = (.int .i64 i) := hu 3 rfl; exact Flow.run1 rfl (Flow.r_move rfl e3) (hK _ _ (Below.refl _ _) rfl)
  ·intro a w' hx hu hd K hK; have e19 := Flow.got (hd 0 rfl) 19 rfl; refine Flow.want rfl ?_; refine Flow.val_call rfl Tryd.func50 (by kernel_rfl) rfl (by simp only [List.map_toArray, List.map_cons, List.map_nil, Act.eval, e19] <;> rfl) (rword_c HI.out HM.out HBB.out HKD.out HCM.out w') ?_; rintro e w2 ⟨rfl, hb2⟩; exact ⟨_, rfl, hK _ _ hb2 (by rfl)⟩
  ·intro a w' hx hu hd K hK; have e20 := Flow.got (hd 1 rfl) 20 rfl; exact Flow.run1 rfl (Flow.r_move rfl e20) (hK _ _ (Below.refl _ _) rfl)
  ·intro a w' hx hu hd K hK; have e18 := Flow.got (hd 2 rfl) 18 rfl; exact Flow.run1 rfl (extr rfl e18 rfl) (hK _ _ (Below.refl _ _) rfl)
  ·intro a w' hx hu hd K hK; have e18 := Flow.got (hd 2 rfl) 18 rfl; exact Flow.run1 rfl (extr rfl e18 rfl) (hK _ _ (Below.refl _ _) rfl)
  ·intro a w' hx hu hd K hK; have e18 := Flow.got (hd 2 rfl) 18 rfl; exact Flow.run1 rfl (extr rfl e18 rfl) (hK _ _ (Below.refl _ _) rfl)
  ·intro a w' hx hu hd K hK; have e18 := Flow.got (hd 2 rfl) 18 rfl; exact Flow.run1 rfl (extr rfl e18 rfl) (hK _ _ (Below.refl _ _) rfl)
  ·intro a w' hx hu hd K hK; have e18 := Flow.got (hd 2 rfl) 18 rfl; exact Flow.run1 rfl (extr rfl e18 rfl) (hK _ _ (Below.refl _ _) rfl)
  ·intro a w' hx hu hd K hK; have e21 := Flow.got (hd 3 rfl) 21 rfl; exact Flow.run1 rfl (Flow.r_assign rfl e21) (hK _ _ (Below.refl _ _) rfl)
  ·intro a w' hx hu hd K hK; have e22 := Flow.got (hd 4 rfl) 22 rfl; exact Flow.run1 rfl (Flow.r_assign rfl e22) (hK _ _ (Below.refl _ _) rfl)
  ·intro a w' hx hu hd K hK; have e23 := Flow.got (hd 5 rfl) 23 rfl; exact Flow.run1 rfl (Flow.r_assign rfl e23) (hK _ _ (Below.refl _ _) rfl)
  ·intro a w' hx hu hd K hK; have e24 := Flow.got (hd 6 rfl) 24 rfl; exact Flow.run1 rfl (Flow.r_assign rfl e24) (hK _ _ (Below.refl _ _) rfl)
  ·intro a w' hx hu hd K hK; have e25 := Flow.got (hd 7 rfl) 25 rfl; exact Flow.run1 rfl (Flow.r_assign rfl e25) (hK _ _ (Below.refl _ _) rfl)
 intro vs W5 hb5 hT
 have v0 := Flow.eqn (hT 0 (by decide))
 have v1 := Flow.eqn (hT 1 (by decide))
 have v2 := Flow.eqn (hT 2 (by decide))
 have v3 := Flow.eqn (hT 3 (by decide))
 have v4 := Flow.eqn (hT 4 (by decide))
 have v5 := Flow.eqn (hT 5 (by decide))
 have v6 := Flow.eqn (hT 6 (by decide))
 have v7 := Flow.eqn (hT 7 (by decide))
 have v8 := Flow.eqn (hT 8 (by decide))
 have v9 := Flow.eqn (hT 9 (by decide))
 have v10 := Flow.eqn (hT 10 (by decide))
 have v11 := Flow.eqn (hT 11 (by decide))
 have v12 := Flow.eqn (hT 12 (by decide))
 simp only [Flow.putsT, v0, v1, v2, v3, v4, v5, v6, v7, v8, v9, v10, v11, v12, Act.put, List.setIfInBounds_toArray, List.set_cons_zero, List.set_cons_succ]
 clear hT v0 v1 v2 v3 v4 v5 v6 v7 v8 v9 v10 v11 v12
 have HB5 := Aside0.mk (below_step HB4.out hb5)
 have Kg1_2_3_4_5 := Aside0.mk (blk_below Kg1_2_3_4.out hb5)
 have Kg2_3_4_5 := Aside0.mk (blk_below Kg2_3_4.out hb5)
 clear hb5
 by_cases hz : i = 0
 ·have HZ := Aside0.mk hz
  clear hz
  obtain rfl : x.fua = fb := by rw [← HFB.out, decide_eq_true HZ.out]; rfl
  go_upto_region 5 with fail
  refine Flow.seqT_head (E := fun u v => Below u.heap.size u v) 11 [(some 26, []), (some 27, []), (some 28, []), (some 29, [2]), (some 30, [3]), (some 31, [4]), (some 32, [5, 4]), (some 33, [6, 4]), (some 34, [4, 7]), (some 35, [1, 8]), (some 36, [0, 9]), (some 9, []), (none, [11, 10, 4, 0, 1, 2, 3, 4, 5, 6, 7, 8, 9, 10, 11])] (fun iQ vQ wQ => match iQ with | 0 => vQ = (.int .i64 kd) | 1 => vQ = (.int .i64 cm) | 2 => vQ = (.int .i64 i) | 3 => vQ = (.bool true) | 4 => vQ = (.bool true) | 5 => vQ = (.pointer (some ⟨g1, 1, none⟩)) | 6 => vQ = (.pointer (some ⟨g1, 6, none⟩)) | 7 => vQ = (.bool x.fua) | 8 => vQ = (.bool x.fua) | 9 => vQ = (.agg #[.int .i64 cm, .int .i64 0, .int .i64 0, .int .i64 0, .slice none 0 0, .bool x.fua]) | 10 => vQ = (.agg #[.int .i64 kd, .int .i64 cm, .int .i64 0, .int .i64 0, .int .i64 0, .slice none 0 0, .bool x.fua, .int .i64 0, .int .i64 0, .slice none 0 0]) | _ => True) rfl (by decide) (by kernel_rfl) (Below.refl _ _) (fun _ _ _ h k => h.trans (k.mono h.size)) (fun _ _ _ _ h _ => h) ?_ ?_
  ·refine ⟨?_, ?_, ?_, ?_, ?_, ?_, ?_, ?_, ?_, ?_, ?_, trivial⟩
   ·intro a w' hx hu hd K hK; have e7 : a.tmps.getD 7 undef = (.int .i64 kd) := hu 7 rfl; exact Flow.run1 rfl (Flow.r_move rfl e7) (hK _ _ (Below.refl _ _) rfl)
   ·intro a w' hx hu hd K hK; have e8 : a.tmps.getD 8 undef = (.int .i64 cm) := hu 8 rfl; exact Flow.run1 rfl (Flow.r_move rfl e8) (hK _ _ (Below.refl _ _) rfl)
   ·intro a w' hx hu hd K hK; have e3 : a.tmps.getD 3 undef = (.int .i64 i) := hu 3 rfl; exact Flow.run1 rfl (Flow.r_move rfl e3) (hK _ _ (Below.refl _ _) rfl)
   ·intro a w' hx hu hd K hK; have e28 := Flow.got (hd 2 rfl) 28 rfl; exact Flow.run1 rfl (yes (eql rfl e28 rfl) (beq_iff_eq.2 (by have := HZ.out; omega))) (hK _ _ (Below.refl _ _) rfl)
   ·intro a w' hx hu hd K hK; have e29 := Flow.got (hd 3 rfl) 29 rfl; exact Flow.run1 rfl (Flow.r_move rfl e29) (hK _ _ (Below.refl _ _) rfl)
   ·intro a w' hx hu hd K hK; have e1 : a.tmps.getD 1 undef = (.pointer (some ⟨g1, 0, none⟩)) := hu 1 rfl; have e30 := Flow.got (hd 4 rfl) 30 rfl; exact Flow.run1 (Flow.want_of (k := 30) rfl e30) (fa rfl e1 (fa56_1 _ _ _)) (hK _ _ (Below.refl _ _) rfl)
   ·intro a w' hx hu hd K hK; have e31 := Flow.got (hd 5 rfl) 31 rfl; have e30 := Flow.got (hd 4 rfl) 30 rfl; exact Flow.run1 (Flow.want_of (k := 30) rfl e30) (fa rfl e31 (fa54_5 _ _ _)) (hK _ _ (Below.refl _ _) rfl)
   ·intro a w' hx hu hd K hK; have e32 := Flow.got (hd 6 rfl) 32 rfl; have e30 := Flow.got (hd 4 rfl) 30 rfl; exact Flow.run1 (Flow.want_of (k := 30) rfl e30) (ld rfl e32 ((blk_cell (blk_below Kg1_2_3_4_5.out hx) 6).trans rfl) Tryd.underlying4 rfl) (hK _ _ (Below.refl _ _) rfl)
   ·intro a w' hx hu hd K hK; have e30 := Flow.got (hd 4 rfl) 30 rfl; have e33 := Flow.got (hd 7 rfl) 33 rfl; exact Flow.run1 rfl (Flow.r_pick rfl e30 e33) (hK _ _ (Below.refl _ _) rfl)
   ·intro a w' hx hu hd K hK; have e27 := Flow.got (hd 1 rfl) 27 rfl; have e34 := Flow.got (hd 8 rfl) 34 rfl; exact Flow.run1 rfl (bld54_0_5 rfl e27 e34) (hK _ _ (Below.refl _ _) rfl)
   ·intro a w' hx hu hd K hK; have e26 := Flow.got (hd 0 rfl) 26 rfl; have e35 := Flow.got (hd 9 rfl) 35 rfl; exact Flow.run1 rfl (bld56_0_1 rfl e26 e35) (hK _ _ (Below.refl _ _) rfl)
  intro vs W6 hb6 hT
  have v0 := Flow.eqn (hT 0 (by decide))
  have v1 := Flow.eqn (hT 1 (by decide))
  have v2 := Flow.eqn (hT 2 (by decide))
  have v3 := Flow.eqn (hT 3 (by decide))
  have v4 := Flow.eqn (hT 4 (by decide))
  have v5 := Flow.eqn (hT 5 (by decide))
  have v6 := Flow.eqn (hT 6 (by decide))
  have v7 := Flow.eqn (hT 7 (by decide))
  have v8 := Flow.eqn (hT 8 (by decide))
  have v9 := Flow.eqn (hT 9 (by decide))
  have v10 := Flow.eqn (hT 10 (by decide))
  simp only [Flow.putsT, v0, v1, v2, v3, v4, v5, v6, v7, v8, v9, v10, Act.put, List.setIfInBounds_toArray, List.set_cons_zero, List.set_cons_succ, List.drop_succ_cons, List.drop_zero, List.take_succ_cons, List.take_zero]
  clear hT v0 v1 v2 v3 v4 v5 v6 v7 v8 v9 v10
  have HB6 := Aside0.mk (below_step HB5.out hb6)
  have Kg1_2_3_4_5_6 := Aside0.mk (blk_below Kg1_2_3_4_5.out hb6)
  have Kg2_3_4_5_6 := Aside0.mk (blk_below Kg2_3_4_5.out hb6)
  clear hb6
  refine ealloc rfl rfl zero56_is ?_
  intro g7 hg7 W7 hk7 hb7
  have Kg7 := Aside0.mk hk7
  have Ng7_g1 := Aside0.mk (show g1 ≠ g7 by have := (Array.getElem?_eq_some_iff.1 Kg1_2_3_4_5_6.out).1; omega)
  have Ng1_g7 := Aside0.mk (Ne.symm Ng7_g1.out)
  have Ng7_g2 := Aside0.mk (show g2 ≠ g7 by have := (Array.getElem?_eq_some_iff.1 Kg2_3_4_5_6.out).1; omega)
  have Ng2_g7 := Aside0.mk (Ne.symm Ng7_g2.out)
  have HB7 := Aside0.mk (below_step HB6.out hb7)
  have Kg1_2_3_4_5_6_7 := Aside0.mk (blk_below Kg1_2_3_4_5_6.out hb7)
  have Kg2_3_4_5_6_7 := Aside0.mk (blk_below Kg2_3_4_5_6.out hb7)
  clear hb7
  have Gg7 := Aside0.mk (show w.heap.size ≤ g7 by rw [hg7]; exact HB6.out.size)
  clear hg7 hk7
  simp only [Act.put, List.setIfInBounds_toArray, List.set_cons_zero, List.set_cons_succ]
  refine Cells.store_whole rfl rfl 56 _ _ rfl g7 [.int .i64 kd, .int .i64 cm, .int .i64 0, .int .i64 0, .int .i64 0, .slice none 0 0, .bool x.fua, .int .i64 0, .int .i64 0, .slice none 0 0] #[.int .i64 0, .int .i64 0, .int .i64 0, .int .i64 0, .int .i64 0, .slice none 0 0, .bool false, .int .i64 0, .int .i64 0, .slice none 0 0] rfl rfl Kg7.out rfl size56 rfl ?_
  intro W8 hk8 hf8 hb8
  have HB8 := Aside0.mk (HB7.out.trans (hb8 _ Gg7.out))
  have Kg1_2_3_4_5_6_7_8 := Aside0.mk ((hf8 _ Ng7_g1.out).trans Kg1_2_3_4_5_6_7.out)
  have Kg2_3_4_5_6_7_8 := Aside0.mk ((hf8 _ Ng7_g2.out).trans Kg2_3_4_5_6_7.out)
  have Kg7_8 := Aside0.mk hk8
  clear hk8 hf8 hb8
  go_upto_region 6 with fail
  refine Flow.seqT_head (E := fun u v => Below u.heap.size u v) 2 [(some 37, []), (some 38, [0]), (some 10, []), (none, [2, 1, 1, 0, 1, 2])] (fun iQ vQ wQ => match iQ with | 0 => vQ = (.agg #[.int .i64 x.kind, .int .i64 x.cmd, .int .i64 x.zone, .int .i64 x.at_, .int .i64 x.n, .slice Ad nd cd, .bool x.fua, .int .i64 x.m, .int .i64 x.k, .slice Ak nk ck]) | 1 => vQ = (.agg #[.int .i64 (n3 x 0), .int .i64 (n3 x 1), .int .i64 (n3 x 2)]) | _ => True) rfl (by decide) (by kernel_rfl) (Below.refl _ _) (fun _ _ _ h k => h.trans (k.mono h.size)) (fun _ _ _ _ h _ => h) ?_ ?_
  ·refine ⟨?_, ?_, trivial⟩
   ·intro a w' hx hu hd K hK; have e1 : a.tmps.getD 1 undef = (.pointer (some ⟨g1, 0, none⟩)) := hu 1 rfl; exact Flow.run1 rfl (ldrow rfl e1 (lies_block (blk_below Kg1_2_3_4_5_6_7_8.out hx)) Tryd.underlying56 rfl size56) (hK _ _ (Below.refl _ _) rfl)
   ·intro a w' hx hu hd K hK; have e37 := Flow.got (hd 0 rfl) 37 rfl; refine Flow.want rfl ?_; refine Flow.val_call rfl Tryd.func59 (by kernel_rfl) rfl (by simp only [List.map_toArray, List.map_cons, List.map_nil, Act.eval, e37] <;> rfl) (rnumbers_c x Ad Ak nd cd nk ck w') ?_; rintro e w2 ⟨rfl, hb2⟩; exact ⟨_, rfl, hK _ _ hb2 (by rfl)⟩
  intro vs W9 hb9 hT
  have v0 := Flow.eqn (hT 0 (by decide))
  have v1 := Flow.eqn (hT 1 (by decide))
  simp only [Flow.putsT, v0, v1, Act.put, List.setIfInBounds_toArray, List.set_cons_zero, List.set_cons_succ, List.drop_succ_cons, List.drop_zero, List.take_succ_cons, List.take_zero]
  clear hT v0 v1
  have HB9 := Aside0.mk (below_step HB8.out hb9)
  have Kg1_2_3_4_5_6_7_8_9 := Aside0.mk (blk_below Kg1_2_3_4_5_6_7_8.out hb9)
  have Kg2_3_4_5_6_7_8_9 := Aside0.mk (blk_below Kg2_3_4_5_6_7_8.out hb9)
  have Kg7_8_9 := Aside0.mk (blk_below Kg7_8.out hb9)
  clear hb9
  refine ealloc rfl rfl zero104_is ?_
  intro g10 hg10 W10 hk10 hb10
  have Kg10 := Aside0.mk hk10
  have Ng10_g1 := Aside0.mk (show g1 ≠ g10 by have := (Array.getElem?_eq_some_iff.1 Kg1_2_3_4_5_6_7_8_9.out).1; omega)
  have Ng1_g10 := Aside0.mk (Ne.symm Ng10_g1.out)
  have Ng10_g2 := Aside0.mk (show g2 ≠ g10 by have := (Array.getElem?_eq_some_iff.1 Kg2_3_4_5_6_7_8_9.out).1; omega)
  have Ng2_g10 := Aside0.mk (Ne.symm Ng10_g2.out)
  have Ng10_g7 := Aside0.mk (show g7 ≠ g10 by have := (Array.getElem?_eq_some_iff.1 Kg7_8_9.out).1; omega)
  have Ng7_g10 := Aside0.mk (Ne.symm Ng10_g7.out)
  have HB10 := Aside0.mk (below_step HB9.out hb10)
  have Kg1_2_3_4_5_6_7_8_9_10 := Aside0.mk (blk_below Kg1_2_3_4_5_6_7_8_9.out hb10)
  have Kg2_3_4_5_6_7_8_9_10 := Aside0.mk (blk_below Kg2_3_4_5_6_7_8_9.out hb10)
  have Kg7_8_9_10 := Aside0.mk (blk_below Kg7_8_9.out hb10)
  clear hb10
  have Gg10 := Aside0.mk (show w.heap.size ≤ g10 by rw [hg10]; exact HB9.out.size)
  clear hg10 hk10
  simp only [Act.put, List.setIfInBounds_toArray, List.set_cons_zero, List.set_cons_succ]
  refine Cells.store_whole rfl rfl 104 _ _ rfl g10 [.int .i64 (n3 x 0), .int .i64 (n3 x 1), .int .i64 (n3 x 2)] #[.int .i64 0, .int .i64 0, .int .i64 0] rfl rfl Kg10.out rfl size104 rfl ?_
  intro W11 hk11 hf11 hb11
  have HB11 := Aside0.mk (HB10.out.trans (hb11 _ Gg10.out))
  have Kg1_2_3_4_5_6_7_8_9_10_11 := Aside0.mk ((hf11 _ Ng10_g1.out).trans Kg1_2_3_4_5_6_7_8_9_10.out)
  have Kg2_3_4_5_6_7_8_9_10_11 := Aside0.mk ((hf11 _ Ng10_g2.out).trans Kg2_3_4_5_6_7_8_9_10.out)
  have Kg7_8_9_10_11 := Aside0.mk ((hf11 _ Ng10_g7.out).trans Kg7_8_9_10.out)
  have Kg10_11 := Aside0.mk hk11
  clear hk11 hf11 hb11
  go_upto_region 7 with fail
  refine Flow.seqT (E := fun u v => Below u.heap.size u v) [(some 39, []), (some 11, [0, 0])] (fun iQ vQ wQ => match iQ with | 0 => vQ = (.int .i64 mn) | 1 => vQ = (.int .i64 mn) | _ => True) rfl (by kernel_rfl) (Below.refl _ _) (fun _ _ _ h k => h.trans (k.mono h.size)) (fun _ _ _ _ h _ => h) ?_ ?_
  ·refine ⟨?_, ?_, trivial⟩
   ·intro a w' hx hu hd K hK; have e5 : a.tmps.getD 5 undef = (.int .i64 mn) := hu 5 rfl; exact Flow.run1 rfl (Flow.r_move rfl e5) (hK _ _ (Below.refl _ _) rfl)
   ·intro a w' hx hu hd K hK; have e39 := Flow.got (hd 0 rfl) 39 rfl; exact Flow.run1 rfl (Flow.r_assign rfl e39) (hK _ _ (Below.refl _ _) rfl)
  intro vs W12 hb12 hT
  have v0 := Flow.eqn (hT 0 (by decide))
  have v1 := Flow.eqn (hT 1 (by decide))
  simp only [Flow.putsT, v0, v1, Act.put, List.setIfInBounds_toArray, List.set_cons_zero, List.set_cons_succ]
  clear hT v0 v1
  have HB12 := Aside0.mk (below_step HB11.out hb12)
  have Kg1_2_3_4_5_6_7_8_9_10_11_12 := Aside0.mk (blk_below Kg1_2_3_4_5_6_7_8_9_10_11.out hb12)
  have Kg2_3_4_5_6_7_8_9_10_11_12 := Aside0.mk (blk_below Kg2_3_4_5_6_7_8_9_10_11.out hb12)
  have Kg7_8_9_10_11_12 := Aside0.mk (blk_below Kg7_8_9_10_11.out hb12)
  have Kg10_11_12 := Aside0.mk (blk_below Kg10_11.out hb12)
  clear hb12
  go_wp2
  go_loopg [11] 3 (fun g v11 wr => ∃ k : Nat, mn ≤ k ∧ k ≤ 3 ∧ Aside0 (3 - k ≤ g) ∧ v11 = .int .i64 k ∧ Aside0 (Below w.heap.size w wr) ∧ Aside0 (wr.heap[g10]? = some (.cells #[.int .i64 (cz x mn k 0), .int .i64 (cz x mn k 1), .int .i64 (cz x mn k 2)] 104 (0, 0))) ∧ Aside0 (wr.heap[g1]? = some (.cells #[.int .i64 x.kind, .int .i64 x.cmd, .int .i64 x.zone, .int .i64 x.at_, .int .i64 x.n, .slice Ad nd cd, .bool x.fua, .int .i64 x.m, .int .i64 x.k, .slice Ak nk ck] 56 (0, 0))) ∧ Aside0 (wr.heap[g2]? = some (.cells #[.int .i64 0, .int .i64 0, .int .i64 0, .int .i64 0, .int .i64 0, .slice none 0 0, .bool false, .int .i64 0, .int .i64 0, .slice none 0 0] 56 (0, 0))) ∧ Aside0 (wr.heap[g7]? = some (.cells #[.int .i64 kd, .int .i64 cm, .int .i64 0, .int .i64 0, .int .i64 0, .slice none 0 0, .bool x.fua, .int .i64 0, .int .i64 0, .slice none 0 0] 56 (0, 0))))
  case atStart => exact ⟨mn, Nat.le_refl _, hm3, ⟨by omega⟩, rfl, HB12, ⟨by rw [cz_start, cz_start, cz_start]; exact Kg10_11_12.out⟩, Kg1_2_3_4_5_6_7_8_9_10_11_12, Kg2_3_4_5_6_7_8_9_10_11_12, Kg7_8_9_10_11_12⟩
  case round =>
   clear HB12 Kg10_11_12 Kg1_2_3_4_5_6_7_8_9_10_11_12 Kg2_3_4_5_6_7_8_9_10_11_12 Kg7_8_9_10_11_12
   obtain ⟨k, hmk, hk3, HGK, rfl, HBR, KA, K1, K2, K9⟩ := hrel
   by_cases hlt : k < 3
   ·have hlt2 : (k : Int) < 3 := by omega
    go_upto_region 8 with fail
    refine Flow.seqT (E := fun u v => Below u.heap.size u v) [(some 40, []), (some 41, [0])] (fun iQ vQ wQ => match iQ with | 0 => vQ = (.int .i64 k) | 1 => vQ = (.bool true) | _ => True) rfl (by kernel_rfl) (Below.refl _ _) (fun _ _ _ h k => h.trans (k.mono h.size)) (fun _ _ _ _ h _ => h) ?_ ?_
    ·refine ⟨?_, ?_, trivial⟩
     ·intro a w' hx hu hd K hK; have e11 : a.tmps.getD 11 undef = (.int .i64 k) := hu 11 rfl; exact Flow.run1 rfl (Flow.r_move rfl e11) (hK _ _ (Below.refl _ _) rfl)
     ·intro a w' hx hu hd K hK; have e40 := Flow.got (hd 0 rfl) 40 rfl; exact Flow.run1 rfl (yes (lss rfl e40 rfl) (decide_eq_true hlt2)) (hK _ _ (Below.refl _ _) rfl)
    intro vs W13 hb13 hT
    have v0 := Flow.eqn (hT 0 (by decide))
    have v1 := Flow.eqn (hT 1 (by decide))
    simp only [Flow.putsT, v0, v1, Act.put, List.setIfInBounds_toArray, List.set_cons_zero, List.set_cons_succ]
    clear hT v0 v1
    have HB13 := Aside0.mk (below_step HBR.out hb13)
    have KA_13 := Aside0.mk (blk_below KA.out hb13)
    have K1_13 := Aside0.mk (blk_below K1.out hb13)
    have K2_13 := Aside0.mk (blk_below K2.out hb13)
    have K9_13 := Aside0.mk (blk_below K9.out hb13)
    clear hb13
    go_upto_region 10 with fail
    refine Flow.seqT_head (E := fun u v => Below u.heap.size u v) 2 [(some 44, []), (some 45, [0, 0]), (none, [1, 0])] (fun iQ vQ wQ => match iQ with | 0 => vQ = (.int .i64 k) | 1 => vQ = (.pointer (some ⟨g10, 0 + k, none⟩)) | _ => True) rfl (by decide) (by kernel_rfl) (Below.refl _ _) (fun _ _ _ h k => h.trans (k.mono h.size)) (fun _ _ _ _ h _ => h) ?_ ?_
    ·refine ⟨?_, ?_, trivial⟩
     ·intro a w' hx hu hd K hK; have e11 : a.tmps.getD 11 undef = (.int .i64 k) := hu 11 rfl; exact Flow.run1 rfl (Flow.r_move rfl e11) (hK _ _ (Below.refl _ _) rfl)
     ·intro a w' hx hu hd K hK; have e10 : a.tmps.getD 10 undef = (.pointer (some ⟨g10, 0, none⟩)) := hu 10 rfl; have e44 := Flow.got (hd 0 rfl) 44 rfl; exact Flow.run1 rfl (ixa (i := k) arr104_u arr104_l arr104_e size3 rfl e10 e44 (by omega)) (hK _ _ (Below.refl _ _) rfl)
    intro vs W14 hb14 hT
    have v0 := Flow.eqn (hT 0 (by decide))
    have v1 := Flow.eqn (hT 1 (by decide))
    simp only [Flow.putsT, v0, v1, Act.put, List.setIfInBounds_toArray, List.set_cons_zero, List.set_cons_succ, List.drop_succ_cons, List.drop_zero, List.take_succ_cons, List.take_zero]
    clear hT v0 v1
    have HB14 := Aside0.mk (below_step HB13.out hb14)
    have KA_13_14 := Aside0.mk (blk_below KA_13.out hb14)
    have K1_13_14 := Aside0.mk (blk_below K1_13.out hb14)
    have K2_13_14 := Aside0.mk (blk_below K2_13.out hb14)
    have K9_13_14 := Aside0.mk (blk_below K9_13.out hb14)
    clear hb14
    refine put_event rfl rfl 3 _ _ rfl g10 (0 + k) (.int .i64 0) #[.int .i64 (cz x mn k 0), .int .i64 (cz x mn k 1), .int .i64 (cz x mn k 2)] #[.int .i64 (cz x mn (k + 1) 0), .int .i64 (cz x mn (k + 1) 1), .int .i64 (cz x mn (k + 1) 2)] rfl rfl rfl size3 KA_13_14.out (show 0 + k < 3 by omega) (cz_put (by omega) hmk) ?_
    intro W15 hk15 hf15 hb15
    have HB15 := Aside0.mk (HB14.out.trans (hb15 _ Gg10.out))
    have Kg10_15 := Aside0.mk hk15
    have K1_13_14_15 := Aside0.mk ((hf15 _ Ng10_g1.out).trans K1_13_14.out)
    have K2_13_14_15 := Aside0.mk ((hf15 _ Ng10_g2.out).trans K2_13_14.out)
    have K9_13_14_15 := Aside0.mk ((hf15 _ Ng10_g7.out).trans K9_13_14.out)
    clear hk15 hf15 hb15
    obtain ⟨k1, K1H⟩ : ∃ q, Aside0 (k + 1 = q) := ⟨_, ⟨rfl⟩⟩
    have hk1 := K1H.out
    go_upto_region 9 with fail
    refine Flow.seqT (E := fun u v => Below u.heap.size u v) [(some 42, []), (some 43, [0]), (some 11, [1, 0, 1])] (fun iQ vQ wQ => match iQ with | 0 => vQ = (.int .i64 k) | 1 => vQ = (.int .i64 k1) | 2 => vQ = (.int .i64 k1) | _ => True) rfl (by kernel_rfl) (Below.refl _ _) (fun _ _ _ h k => h.trans (k.mono h.size)) (fun _ _ _ _ h _ => h) ?_ ?_
    ·refine ⟨?_, ?_, ?_, trivial⟩
     ·intro a w' hx hu hd K hK; have e11 : a.tmps.getD 11 undef = (.int .i64 k) := hu 11 rfl; exact Flow.run1 rfl (Flow.r_move rfl e11) (hK _ _ (Below.refl _ _) rfl)
     ·intro a w' hx hu hd K hK; have e42 := Flow.got (hd 0 rfl) 42 rfl; exact Flow.run1 rfl (addk rfl e42 rfl (by omega) (by omega) (by omega)) (hK _ _ (Below.refl _ _) rfl)
     ·intro a w' hx hu hd K hK; have e43 := Flow.got (hd 1 rfl) 43 rfl; exact Flow.run1 rfl (Flow.r_assign rfl e43) (hK _ _ (Below.refl _ _) rfl)
    intro vs W16 hb16 hT
    have v0 := Flow.eqn (hT 0 (by decide))
    have v1 := Flow.eqn (hT 1 (by decide))
    have v2 := Flow.eqn (hT 2 (by decide))
    simp only [Flow.putsT, v0, v1, v2, Act.put, List.setIfInBounds_toArray, List.set_cons_zero, List.set_cons_succ]
    clear hT v0 v1 v2
    have HB16 := Aside0.mk (below_step HB15.out hb16)
    have Kg10_15_16 := Aside0.mk (blk_below Kg10_15.out hb16)
    have K1_13_14_15_16 := Aside0.mk (blk_below K1_13_14_15.out hb16)
    have K2_13_14_15_16 := Aside0.mk (blk_below K2_13_14_15.out hb16)
    have K9_13_14_15_16 := Aside0.mk (blk_below K9_13_14_15.out hb16)
    clear hb16
    go_wp2
    go_roundg (3 - (k + 1))
    case measure => have := HGK.out; omega
    case rel => exact ⟨k1, by omega, by omega, ⟨by omega⟩, rfl, HB16, ⟨by rw [← hk1]; exact Kg10_15_16.out⟩, K1_13_14_15_16, K2_13_14_15_16, K9_13_14_15_16⟩
   ·obtain rfl : k = 3 := by omega
    have hlt2 : ¬ ((3 : Nat) : Int) < 3 := by omega
    rw [cz_end x (by decide), cz_end x (by decide), cz_end x (by decide), HM0.out, HM1.out, HM2.out] at KA
    go_upto_region 8 with fail
    refine Flow.seqT (E := fun u v => Below u.heap.size u v) [(some 40, []), (some 41, [0])] (fun iQ vQ wQ => match iQ with | 0 => vQ = (.int .i64 3) | 1 => vQ = (.bool false) | _ => True) rfl (by kernel_rfl) (Below.refl _ _) (fun _ _ _ h k => h.trans (k.mono h.size)) (fun _ _ _ _ h _ => h) ?_ ?_
    ·refine ⟨?_, ?_, trivial⟩
     ·intro a w' hx hu hd K hK; have e11 : a.tmps.getD 11 undef = (.int .i64 3) := hu 11 rfl; exact Flow.run1 rfl (Flow.r_move rfl e11) (hK _ _ (Below.refl _ _) rfl)
     ·intro a w' hx hu hd K hK; have e40 := Flow.got (hd 0 rfl) 40 rfl; exact Flow.run1 rfl (no (lss rfl e40 rfl) (decide_eq_false hlt2)) (hK _ _ (Below.refl _ _) rfl)
    intro vs W17 hb17 hT
    have v0 := Flow.eqn (hT 0 (by decide))
    have v1 := Flow.eqn (hT 1 (by decide))
    simp only [Flow.putsT, v0, v1, Act.put, List.setIfInBounds_toArray, List.set_cons_zero, List.set_cons_succ]
    clear hT v0 v1
    have HB17 := Aside0.mk (below_step HBR.out hb17)
    have KA_17 := Aside0.mk (blk_below KA.out hb17)
    have K1_17 := Aside0.mk (blk_below K1.out hb17)
    have K2_17 := Aside0.mk (blk_below K2.out hb17)
    have K9_17 := Aside0.mk (blk_below K9.out hb17)
    clear hb17
    go_upto_region 11 with fail
    refine Flow.seqT (E := fun u v => Below u.heap.size u v) [(some 12, [])] (fun iQ vQ wQ => match iQ with | 0 => vQ = (.slice none 0 0) | _ => True) rfl (by kernel_rfl) (Below.refl _ _) (fun _ _ _ h k => h.trans (k.mono h.size)) (fun _ _ _ _ h _ => h) ?_ ?_
    ·refine ⟨?_, trivial⟩
     ·intro a w' hx hu hd K hK; exact Flow.run1 rfl (Flow.r_assign rfl rfl) (hK _ _ (Below.refl _ _) rfl)
    intro vs W18 hb18 hT
    have v0 := Flow.eqn (hT 0 (by decide))
    simp only [Flow.putsT, v0, Act.put, List.setIfInBounds_toArray, List.set_cons_zero, List.set_cons_succ]
    clear hT v0
    have HB18 := Aside0.mk (below_step HB17.out hb18)
    have KA_17_18 := Aside0.mk (blk_below KA_17.out hb18)
    have K1_17_18 := Aside0.mk (blk_below K1_17.out hb18)
    have K2_17_18 := Aside0.mk (blk_below K2_17.out hb18)
    have K9_17_18 := Aside0.mk (blk_below K9_17.out hb18)
    clear hb18
    cases bb with
    | true =>
     go_upto_region 12 with fail
     refine Flow.seqT (E := fun u v => Below u.heap.size u v) [(some 46, []), (some 47, [0]), (some 48, [1]), (some 49, [2, 1]), (some 50, [1, 3])] (fun iQ vQ wQ => match iQ with | 0 => vQ = (.bool true) | 1 => vQ = (.bool true) | 2 => vQ = (.int .i64 i) | 3 => vQ = (.bool true) | 4 => vQ = (.bool true) | _ => True) rfl (by kernel_rfl) (Below.refl _ _) (fun _ _ _ h k => h.trans (k.mono h.size)) (fun _ _ _ _ h _ => h) ?_ ?_
     ·refine ⟨?_, ?_, ?_, ?_, ?_, trivial⟩
      ·intro a w' hx hu hd K hK; have e6 : a.tmps.getD 6 undef = (.bool true) := hu 6 rfl; exact Flow.run1 rfl (Flow.r_move rfl e6) (hK _ _ (Below.refl _ _) rfl)
      ·intro a w' hx hu hd K hK; have e46 := Flow.got (hd 0 rfl) 46 rfl; exact Flow.run1 rfl (Flow.r_move rfl e46) (hK _ _ (Below.refl _ _) rfl)
      ·intro a w' hx hu hd K hK; have e3 : a.tmps.getD 3 undef = (.int .i64 i) := hu 3 rfl; have e47 := Flow.got (hd 1 rfl) 47 rfl; exact Flow.run1 (Flow.want_of (k := 47) rfl e47) (Flow.r_move rfl e3) (hK _ _ (Below.refl _ _) rfl)
      ·intro a w' hx hu hd K hK; have e48 := Flow.got (hd 2 rfl) 48 rfl; have e47 := Flow.got (hd 1 rfl) 47 rfl; exact Flow.run1 (Flow.want_of (k := 47) rfl e47) (yes (eql rfl e48 rfl) (beq_iff_eq.2 (by have := HZ.out; omega))) (hK _ _ (Below.refl _ _) rfl)
      ·intro a w' hx hu hd K hK; have e47 := Flow.got (hd 1 rfl) 47 rfl; have e49 := Flow.got (hd 3 rfl) 49 rfl; exact Flow.run1 rfl (Flow.r_pick rfl e47 e49) (hK _ _ (Below.refl _ _) rfl)
     intro vs W19 hb19 hT
     have v0 := Flow.eqn (hT 0 (by decide))
     have v1 := Flow.eqn (hT 1 (by decide))
     have v2 := Flow.eqn (hT 2 (by decide))
     have v3 := Flow.eqn (hT 3 (by decide))
     have v4 := Flow.eqn (hT 4 (by decide))
     simp only [Flow.putsT, v0, v1, v2, v3, v4, Act.put, List.setIfInBounds_toArray, List.set_cons_zero, List.set_cons_succ]
     clear hT v0 v1 v2 v3 v4
     have HB19 := Aside0.mk (below_step HB18.out hb19)
     have KA_17_18_19 := Aside0.mk (blk_below KA_17_18.out hb19)
     have K1_17_18_19 := Aside0.mk (blk_below K1_17_18.out hb19)
     have K2_17_18_19 := Aside0.mk (blk_below K2_17_18.out hb19)
     have K9_17_18_19 := Aside0.mk (blk_below K9_17_18.out hb19)
     clear hb19
     go_upto_region 13 with fail
     refine Flow.seqT (E := fun u v => Below u.heap.size u v) [(some 51, []), (some 52, [0]), (some 53, [1]), (some 12, [2, 0, 1, 2])] (fun iQ vQ wQ => match iQ with | 0 => vQ = (.pointer (some ⟨g1, 1, none⟩)) | 1 => vQ = (.pointer (some ⟨g1, 5, none⟩)) | 2 => vQ = (.slice Ad nd cd) | 3 => vQ = (.slice Ad nd cd) | _ => True) rfl (by kernel_rfl) (Below.refl _ _) (fun _ _ _ h k => h.trans (k.mono h.size)) (fun _ _ _ _ h _ => h) ?_ ?_
     ·refine ⟨?_, ?_, ?_, ?_, trivial⟩
      ·intro a w' hx hu hd K hK; have e1 : a.tmps.getD 1 undef = (.pointer (some ⟨g1, 0, none⟩)) := hu 1 rfl; exact Flow.run1 rfl (fa rfl e1 (fa56_1 _ _ _)) (hK _ _ (Below.refl _ _) rfl)
      ·intro a w' hx hu hd K hK; have e51 := Flow.got (hd 0 rfl) 51 rfl; exact Flow.run1 rfl (fa rfl e51 (fa54_4 _ _ _)) (hK _ _ (Below.refl _ _) rfl)
      ·intro a w' hx hu hd K hK; have e52 := Flow.got (hd 1 rfl) 52 rfl; exact Flow.run1 rfl (ld rfl e52 ((blk_cell (blk_below K1_17_18_19.out hx) 5).trans rfl) Tryd.underlying43 rfl) (hK _ _ (Below.refl _ _) rfl)
      ·intro a w' hx hu hd K hK; have e53 := Flow.got (hd 2 rfl) 53 rfl; exact Flow.run1 rfl (Flow.r_assign rfl e53) (hK _ _ (Below.refl _ _) rfl)
     intro vs W20 hb20 hT
     have v0 := Flow.eqn (hT 0 (by decide))
     have v1 := Flow.eqn (hT 1 (by decide))
     have v2 := Flow.eqn (hT 2 (by decide))
     have v3 := Flow.eqn (hT 3 (by decide))
     simp only [Flow.putsT, v0, v1, v2, v3, Act.put, List.setIfInBounds_toArray, List.set_cons_zero, List.set_cons_succ]
     clear hT v0 v1 v2 v3
     have HB20 := Aside0.mk (below_step HB19.out hb20)
     have KA_17_18_19_20 := Aside0.mk (blk_below KA_17_18_19.out hb20)
     have K1_17_18_19_20 := Aside0.mk (blk_below K1_17_18_19.out hb20)
     have K2_17_18_19_20 := Aside0.mk (blk_below K2_17_18_19.out hb20)
     have K9_17_18_19_20 := Aside0.mk (blk_below K9_17_18_19.out hb20)
     clear hb20
     go_upto_region 14 with fail
     refine Flow.seqT (E := fun u v => Below u.heap.size u v) [(some 54, []), (some 55, [0]), (some 56, [1]), (some 57, [2, 1]), (some 58, [1, 3])] (fun iQ vQ wQ => match iQ with | 0 => vQ = (.bool true) | 1 => vQ = (.bool true) | 2 => vQ = (.int .i64 i) | 3 => vQ = (.bool false) | 4 => vQ = (.bool false) | _ => True) rfl (by kernel_rfl) (Below.refl _ _) (fun _ _ _ h k => h.trans (k.mono h.size)) (fun _ _ _ _ h _ => h) ?_ ?_
     ·refine ⟨?_, ?_, ?_, ?_, ?_, trivial⟩
      ·intro a w' hx hu hd K hK; have e6 : a.tmps.getD 6 undef = (.bool true) := hu 6 rfl; exact Flow.run1 rfl (Flow.r_move rfl e6) (hK _ _ (Below.refl _ _) rfl)
      ·intro a w' hx hu hd K hK; have e54 := Flow.got (hd 0 rfl) 54 rfl; exact Flow.run1 rfl (Flow.r_move rfl e54) (hK _ _ (Below.refl _ _) rfl)
      ·intro a w' hx hu hd K hK; have e3 : a.tmps.getD 3 undef = (.int .i64 i) := hu 3 rfl; have e55 := Flow.got (hd 1 rfl) 55 rfl; exact Flow.run1 (Flow.want_of (k := 55) rfl e55) (Flow.r_move rfl e3) (hK _ _ (Below.refl _ _) rfl)
      ·intro a w' hx hu hd K hK; have e56 := Flow.got (hd 2 rfl) 56 rfl; have e55 := Flow.got (hd 1 rfl) 55 rfl; exact Flow.run1 (Flow.want_of (k := 55) rfl e55) (no (gtr rfl e56 rfl) (decide_eq_false (by have := HZ.out; omega))) (hK _ _ (Below.refl _ _) rfl)
      ·intro a w' hx hu hd K hK; have e55 := Flow.got (hd 1 rfl) 55 rfl; have e57 := Flow.got (hd 3 rfl) 57 rfl; exact Flow.run1 rfl (Flow.r_pick rfl e55 e57) (hK _ _ (Below.refl _ _) rfl)
     intro vs W21 hb21 hT
     have v0 := Flow.eqn (hT 0 (by decide))
     have v1 := Flow.eqn (hT 1 (by decide))
     have v2 := Flow.eqn (hT 2 (by decide))
     have v3 := Flow.eqn (hT 3 (by decide))
     have v4 := Flow.eqn (hT 4 (by decide))
     simp only [Flow.putsT, v0, v1, v2, v3, v4, Act.put, List.setIfInBounds_toArray, List.set_cons_zero, List.set_cons_succ]
     clear hT v0 v1 v2 v3 v4
     have HB21 := Aside0.mk (below_step HB20.out hb21)
     have KA_17_18_19_20_21 := Aside0.mk (blk_below KA_17_18_19_20.out hb21)
     have K1_17_18_19_20_21 := Aside0.mk (blk_below K1_17_18_19_20.out hb21)
     have K2_17_18_19_20_21 := Aside0.mk (blk_below K2_17_18_19_20.out hb21)
     have K9_17_18_19_20_21 := Aside0.mk (blk_below K9_17_18_19_20.out hb21)
     clear hb21
     have hvb : Value.slice Ad nd cd = .slice Ab nb cb := by rw [← HVB.out]; unfold bP; rw [if_pos rfl, if_pos HZ.out]
     injection hvb with h1 h2 h3
     subst h1
     subst h2
     subst h3
     by_cases hk0 : kd = 0
     ·have HK0 := Aside0.mk hk0
      clear hk0
      have hf0 := HF.out
      unfold fillC at hf0
      rw [if_pos HK0.out] at hf0
      subst hf0
      clear HF
      have HFC := Aside0.mk (show fillC kd cm x.fua m0 m1 m2 (.slice Ad nd cd) = [.int .i64 kd, .int .i64 cm, .int .i64 m0, .int .i64 m1, .int .i64 m2, .slice Ad nd cd, .bool x.fua, .int .i64 0, .int .i64 0, .slice none 0 0] by unfold fillC; rw [if_pos HK0.out])
      go_upto_region 16 with fail
      refine Flow.seqT_head (E := fun u v => Below u.heap.size u v) 4 [(some 61, []), (some 62, []), (some 63, []), (some 64, [0, 1, 2]), (none, [3, 3, 0, 1, 2, 3])] (fun iQ vQ wQ => match iQ with | 0 => vQ = (.agg #[.int .i64 kd, .int .i64 cm, .int .i64 0, .int .i64 0, .int .i64 0, .slice none 0 0, .bool x.fua, .int .i64 0, .int .i64 0, .slice none 0 0]) | 1 => vQ = (.agg #[.int .i64 m0, .int .i64 m1, .int .i64 m2]) | 2 => vQ = (.slice Ad nd cd) | 3 => vQ = (.agg #[.int .i64 kd, .int .i64 cm, .int .i64 m0, .int .i64 m1, .int .i64 m2, .slice Ad nd cd, .bool x.fua, .int .i64 0, .int .i64 0, .slice none 0 0]) | _ => True) rfl (by decide) (by kernel_rfl) (Below.refl _ _) (fun _ _ _ h k => h.trans (k.mono h.size)) (fun _ _ _ _ h _ => h) ?_ ?_
      ·refine ⟨?_, ?_, ?_, ?_, trivial⟩
       ·intro a w' hx hu hd K hK; have e9 : a.tmps.getD 9 undef = (.pointer (some ⟨g7, 0, none⟩)) := hu 9 rfl; exact Flow.run1 rfl (ldrow rfl e9 (lies_block (blk_below K9_17_18_19_20_21.out hx)) Tryd.underlying56 rfl size56) (hK _ _ (Below.refl _ _) rfl)
       ·intro a w' hx hu hd K hK; have e10 : a.tmps.getD 10 undef = (.pointer (some ⟨g10, 0, none⟩)) := hu 10 rfl; exact Flow.run1 rfl (ldrow rfl e10 (lies_block (blk_below KA_17_18_19_20_21.out hx)) Tryd.underlying104 rfl size104) (hK _ _ (Below.refl _ _) rfl)
       ·intro a w' hx hu hd K hK; have e12 : a.tmps.getD 12 undef = (.slice Ad nd cd) := hu 12 rfl; exact Flow.run1 rfl (Flow.r_move rfl e12) (hK _ _ (Below.refl _ _) rfl)
       ·intro a w' hx hu hd K hK; have e61 := Flow.got (hd 0 rfl) 61 rfl; have e62 := Flow.got (hd 1 rfl) 62 rfl; have e63 := Flow.got (hd 2 rfl) 63 rfl; refine Flow.want rfl ?_; refine Flow.val_call rfl Tryd.func53 (by kernel_rfl) rfl (by simp only [List.map_toArray, List.map_cons, List.map_nil, Act.eval, e61, e62, e63] <;> rfl) (fill_at HFC.out w') ?_; rintro e w2 ⟨rfl, hb2⟩; exact ⟨_, rfl, hK _ _ hb2 (by rfl)⟩
      intro vs W22 hb22 hT
      have v0 := Flow.eqn (hT 0 (by decide))
      have v1 := Flow.eqn (hT 1 (by decide))
      have v2 := Flow.eqn (hT 2 (by decide))
      have v3 := Flow.eqn (hT 3 (by decide))
      simp only [Flow.putsT, v0, v1, v2, v3, Act.put, List.setIfInBounds_toArray, List.set_cons_zero, List.set_cons_succ, List.drop_succ_cons, List.drop_zero, List.take_succ_cons, List.take_zero]
      clear hT v0 v1 v2 v3
      have HB22 := Aside0.mk (below_step HB21.out hb22)
      have KA_17_18_19_20_21_22 := Aside0.mk (blk_below KA_17_18_19_20_21.out hb22)
      have K1_17_18_19_20_21_22 := Aside0.mk (blk_below K1_17_18_19_20_21.out hb22)
      have K2_17_18_19_20_21_22 := Aside0.mk (blk_below K2_17_18_19_20_21.out hb22)
      have K9_17_18_19_20_21_22 := Aside0.mk (blk_below K9_17_18_19_20_21.out hb22)
      clear hb22
      refine Cells.store_whole rfl rfl 56 _ _ rfl g2 [.int .i64 kd, .int .i64 cm, .int .i64 m0, .int .i64 m1, .int .i64 m2, .slice Ad nd cd, .bool x.fua, .int .i64 0, .int .i64 0, .slice none 0 0] #[.int .i64 0, .int .i64 0, .int .i64 0, .int .i64 0, .int .i64 0, .slice none 0 0, .bool false, .int .i64 0, .int .i64 0, .slice none 0 0] rfl rfl K2_17_18_19_20_21_22.out rfl size56 rfl ?_
      intro W23 hk23 hf23 hb23
      have HB23 := Aside0.mk (HB22.out.trans (hb23 _ Gg2.out))
      have KA_17_18_19_20_21_22_23 := Aside0.mk ((hf23 _ Ng2_g10.out).trans KA_17_18_19_20_21_22.out)
      have K1_17_18_19_20_21_22_23 := Aside0.mk ((hf23 _ Ng2_g1.out).trans K1_17_18_19_20_21_22.out)
      have K9_17_18_19_20_21_22_23 := Aside0.mk ((hf23 _ Ng2_g7.out).trans K9_17_18_19_20_21_22.out)
      have Kg2_23 := Aside0.mk hk23
      clear hk23 hf23 hb23
      go_wp2_with fail
      exact bodyPost_ret (results_cell_row Tryd.results36 _ _ g2 56 _ _ _ rfl Kg2_23.out Tryd.underlying56 rfl size56) rfl ⟨rfl, HB23.out⟩
     ·have HK0 := Aside0.mk hk0
      clear hk0
      by_cases hk1 : kd = 1
      ·have HK1 := Aside0.mk hk1
       clear hk1
       have hf0 := HF.out
       unfold fillC at hf0
       rw [if_neg HK0.out, if_pos HK1.out] at hf0
       subst hf0
       clear HF
       have HFC := Aside0.mk (show fillC kd cm x.fua m0 m1 m2 (.slice Ad nd cd) = [.int .i64 kd, .int .i64 cm, .int .i64 0, .int .i64 0, .int .i64 0, .slice none 0 0, .bool x.fua, .int .i64 0, .int .i64 m0, .slice Ad nd cd] by unfold fillC; rw [if_neg HK0.out, if_pos HK1.out])
       go_upto_region 16 with fail
       refine Flow.seqT_head (E := fun u v => Below u.heap.size u v) 4 [(some 61, []), (some 62, []), (some 63, []), (some 64, [0, 1, 2]), (none, [3, 3, 0, 1, 2, 3])] (fun iQ vQ wQ => match iQ with | 0 => vQ = (.agg #[.int .i64 kd, .int .i64 cm, .int .i64 0, .int .i64 0, .int .i64 0, .slice none 0 0, .bool x.fua, .int .i64 0, .int .i64 0, .slice none 0 0]) | 1 => vQ = (.agg #[.int .i64 m0, .int .i64 m1, .int .i64 m2]) | 2 => vQ = (.slice Ad nd cd) | 3 => vQ = (.agg #[.int .i64 kd, .int .i64 cm, .int .i64 0, .int .i64 0, .int .i64 0, .slice none 0 0, .bool x.fua, .int .i64 0, .int .i64 m0, .slice Ad nd cd]) | _ => True) rfl (by decide) (by kernel_rfl) (Below.refl _ _) (fun _ _ _ h k => h.trans (k.mono h.size)) (fun _ _ _ _ h _ => h) ?_ ?_
       ·refine ⟨?_, ?_, ?_, ?_, trivial⟩
        ·intro a w' hx hu hd K hK; have e9 : a.tmps.getD 9 undef = (.pointer (some ⟨g7, 0, none⟩)) := hu 9 rfl; exact Flow.run1 rfl (ldrow rfl e9 (lies_block (blk_below K9_17_18_19_20_21.out hx)) Tryd.underlying56 rfl size56) (hK _ _ (Below.refl _ _) rfl)
        ·intro a w' hx hu hd K hK; have e10 : a.tmps.getD 10 undef = (.pointer (some ⟨g10, 0, none⟩)) := hu 10 rfl; exact Flow.run1 rfl (ldrow rfl e10 (lies_block (blk_below KA_17_18_19_20_21.out hx)) Tryd.underlying104 rfl size104) (hK _ _ (Below.refl _ _) rfl)
        ·intro a w' hx hu hd K hK; have e12 : a.tmps.getD 12 undef = (.slice Ad nd cd) := hu 12 rfl; exact Flow.run1 rfl (Flow.r_move rfl e12) (hK _ _ (Below.refl _ _) rfl)
        ·intro a w' hx hu hd K hK; have e61 := Flow.got (hd 0 rfl) 61 rfl; have e62 := Flow.got (hd 1 rfl) 62 rfl; have e63 := Flow.got (hd 2 rfl) 63 rfl; refine Flow.want rfl ?_; refine Flow.val_call rfl Tryd.func53 (by kernel_rfl) rfl (by simp only [List.map_toArray, List.map_cons, List.map_nil, Act.eval, e61, e62, e63] <;> rfl) (fill_at HFC.out w') ?_; rintro e w2 ⟨rfl, hb2⟩; exact ⟨_, rfl, hK _ _ hb2 (by rfl)⟩
       intro vs W24 hb24 hT
       have v0 := Flow.eqn (hT 0 (by decide))
       have v1 := Flow.eqn (hT 1 (by decide))
       have v2 := Flow.eqn (hT 2 (by decide))
       have v3 := Flow.eqn (hT 3 (by decide))
       simp only [Flow.putsT, v0, v1, v2, v3, Act.put, List.setIfInBounds_toArray, List.set_cons_zero, List.set_cons_succ, List.drop_succ_cons, List.drop_zero, List.take_succ_cons, List.take_zero]
       clear hT v0 v1 v2 v3
       have HB24 := Aside0.mk (below_step HB21.out hb24)
       have KA_17_18_19_20_21_24 := Aside0.mk (blk_below KA_17_18_19_20_21.out hb24)
       have K1_17_18_19_20_21_24 := Aside0.mk (blk_below K1_17_18_19_20_21.out hb24)
       have K2_17_18_19_20_21_24 := Aside0.mk (blk_below K2_17_18_19_20_21.out hb24)
       have K9_17_18_19_20_21_24 := Aside0.mk (blk_below K9_17_18_19_20_21.out hb24)
       clear hb24
       refine Cells.store_whole rfl rfl 56 _ _ rfl g2 [.int .i64 kd, .int .i64 cm, .int .i64 0, .int .i64 0, .int .i64 0, .slice none 0 0, .bool x.fua, .int .i64 0, .int .i64 m0, .slice Ad nd cd] #[.int .i64 0, .int .i64 0, .int .i64 0, .int .i64 0, .int .i64 0, .slice none 0 0, .bool false, .int .i64 0, .int .i64 0, .slice none 0 0] rfl rfl K2_17_18_19_20_21_24.out rfl size56 rfl ?_
       intro W25 hk25 hf25 hb25
       have HB25 := Aside0.mk (HB24.out.trans (hb25 _ Gg2.out))
       have KA_17_18_19_20_21_24_25 := Aside0.mk ((hf25 _ Ng2_g10.out).trans KA_17_18_19_20_21_24.out)
       have K1_17_18_19_20_21_24_25 := Aside0.mk ((hf25 _ Ng2_g1.out).trans K1_17_18_19_20_21_24.out)
       have K9_17_18_19_20_21_24_25 := Aside0.mk ((hf25 _ Ng2_g7.out).trans K9_17_18_19_20_21_24.out)
       have Kg2_25 := Aside0.mk hk25
       clear hk25 hf25 hb25
       go_wp2_with fail
       exact bodyPost_ret (results_cell_row Tryd.results36 _ _ g2 56 _ _ _ rfl Kg2_25.out Tryd.underlying56 rfl size56) rfl ⟨rfl, HB25.out⟩
      ·have HK1 := Aside0.mk hk1
       clear hk1
       have hf0 := HF.out
       unfold fillC at hf0
       rw [if_neg HK0.out, if_neg HK1.out] at hf0
       subst hf0
       clear HF
       have HFC := Aside0.mk (show fillC kd cm x.fua m0 m1 m2 (.slice Ad nd cd) = [.int .i64 kd, .int .i64 cm, .int .i64 0, .int .i64 0, .int .i64 0, .slice none 0 0, .bool x.fua, .int .i64 m0, .int .i64 m1, .slice Ad nd cd] by unfold fillC; rw [if_neg HK0.out, if_neg HK1.out])
       go_upto_region 16 with fail
       refine Flow.seqT_head (E := fun u v => Below u.heap.size u v) 4 [(some 61, []), (some 62, []), (some 63, []), (some 64, [0, 1, 2]), (none, [3, 3, 0, 1, 2, 3])] (fun iQ vQ wQ => match iQ with | 0 => vQ = (.agg #[.int .i64 kd, .int .i64 cm, .int .i64 0, .int .i64 0, .int .i64 0, .slice none 0 0, .bool x.fua, .int .i64 0, .int .i64 0, .slice none 0 0]) | 1 => vQ = (.agg #[.int .i64 m0, .int .i64 m1, .int .i64 m2]) | 2 => vQ = (.slice Ad nd cd) | 3 => vQ = (.agg #[.int .i64 kd, .int .i64 cm, .int .i64 0, .int .i64 0, .int .i64 0, .slice none 0 0, .bool x.fua, .int .i64 m0, .int .i64 m1, .slice Ad nd cd]) | _ => True) rfl (by decide) (by kernel_rfl) (Below.refl _ _) (fun _ _ _ h k => h.trans (k.mono h.size)) (fun _ _ _ _ h _ => h) ?_ ?_
       ·refine ⟨?_, ?_, ?_, ?_, trivial⟩
        ·intro a w' hx hu hd K hK; have e9 : a.tmps.getD 9 undef = (.pointer (some ⟨g7, 0, none⟩)) := hu 9 rfl; exact Flow.run1 rfl (ldrow rfl e9 (lies_block (blk_below K9_17_18_19_20_21.out hx)) Tryd.underlying56 rfl size56) (hK _ _ (Below.refl _ _) rfl)
        ·intro a w' hx hu hd K hK; have e10 : a.tmps.getD 10 undef = (.pointer (some ⟨g10, 0, none⟩)) := hu 10 rfl; exact Flow.run1 rfl (ldrow rfl e10 (lies_block (blk_below KA_17_18_19_20_21.out hx)) Tryd.underlying104 rfl size104) (hK _ _ (Below.refl _ _) rfl)
        ·intro a w' hx hu hd K hK; have e12 : a.tmps.getD 12 undef = (.slice Ad nd cd) := hu 12 rfl; exact Flow.run1 rfl (Flow.r_move rfl e12) (hK _ _ (Below.refl _ _) rfl)
        ·intro a w' hx hu hd K hK; have e61 := Flow.got (hd 0 rfl) 61 rfl; have e62 := Flow.got (hd 1 rfl) 62 rfl; have e63 := Flow.got (hd 2 rfl) 63 rfl; refine Flow.want rfl ?_; refine Flow.val_call rfl Tryd.func53 (by kernel_rfl) rfl (by simp only [List.map_toArray, List.map_cons, List.map_nil, Act.eval, e61, e62, e63] <;> rfl) (fill_at HFC.out w') ?_; rintro e w2 ⟨rfl, hb2⟩; exact ⟨_, rfl, hK _ _ hb2 (by rfl)⟩
       intro vs W26 hb26 hT
       have v0 := Flow.eqn (hT 0 (by decide))
       have v1 := Flow.eqn (hT 1 (by decide))
       have v2 := Flow.eqn (hT 2 (by decide))
       have v3 := Flow.eqn (hT 3 (by decide))
       simp only [Flow.putsT, v0, v1, v2, v3, Act.put, List.setIfInBounds_toArray, List.set_cons_zero, List.set_cons_succ, List.drop_succ_cons, List.drop_zero, List.take_succ_cons, List.take_zero]
       clear hT v0 v1 v2 v3
       have HB26 := Aside0.mk (below_step HB21.out hb26)
       have KA_17_18_19_20_21_26 := Aside0.mk (blk_below KA_17_18_19_20_21.out hb26)
       have K1_17_18_19_20_21_26 := Aside0.mk (blk_below K1_17_18_19_20_21.out hb26)
       have K2_17_18_19_20_21_26 := Aside0.mk (blk_below K2_17_18_19_20_21.out hb26)
       have K9_17_18_19_20_21_26 := Aside0.mk (blk_below K9_17_18_19_20_21.out hb26)
       clear hb26
       refine Cells.store_whole rfl rfl 56 _ _ rfl g2 [.int .i64 kd, .int .i64 cm, .int .i64 0, .int .i64 0, .int .i64 0, .slice none 0 0, .bool x.fua, .int .i64 m0, .int .i64 m1, .slice Ad nd cd] #[.int .i64 0, .int .i64 0, .int .i64 0, .int .i64 0, .int .i64 0, .slice none 0 0, .bool false, .int .i64 0, .int .i64 0, .slice none 0 0] rfl rfl K2_17_18_19_20_21_26.out rfl size56 rfl ?_
       intro W27 hk27 hf27 hb27
       have HB27 := Aside0.mk (HB26.out.trans (hb27 _ Gg2.out))
       have KA_17_18_19_20_21_26_27 := Aside0.mk ((hf27 _ Ng2_g10.out).trans KA_17_18_19_20_21_26.out)
       have K1_17_18_19_20_21_26_27 := Aside0.mk ((hf27 _ Ng2_g1.out).trans K1_17_18_19_20_21_26.out)
       have K9_17_18_19_20_21_26_27 := Aside0.mk ((hf27 _ Ng2_g7.out).trans K9_17_18_19_20_21_26.out)
       have Kg2_27 := Aside0.mk hk27
       clear hk27 hf27 hb27
       go_wp2_with fail
       exact bodyPost_ret (results_cell_row Tryd.results36 _ _ g2 56 _ _ _ rfl Kg2_27.out Tryd.underlying56 rfl size56) rfl ⟨rfl, HB27.out⟩
    | false =>
     go_upto_region 12 with fail
     refine Flow.seqT (E := fun u v => Below u.heap.size u v) [(some 46, []), (some 47, [0]), (some 48, [1]), (some 49, [2, 1]), (some 50, [1, 3])] (fun iQ vQ wQ => match iQ with | 0 => vQ = (.bool false) | 1 => vQ = (.bool false) | 2 => vQ = undef | 3 => vQ = undef | 4 => vQ = (.bool false) | _ => True) rfl (by kernel_rfl) (Below.refl _ _) (fun _ _ _ h k => h.trans (k.mono h.size)) (fun _ _ _ _ h _ => h) ?_ ?_
     ·refine ⟨?_, ?_, ?_, ?_, ?_, trivial⟩
      ·intro a w' hx hu hd K hK; have e6 : a.tmps.getD 6 undef = (.bool false) := hu 6 rfl; exact Flow.run1 rfl (Flow.r_move rfl e6) (hK _ _ (Below.refl _ _) rfl)
      ·intro a w' hx hu hd K hK; have e46 := Flow.got (hd 0 rfl) 46 rfl; exact Flow.run1 rfl (Flow.r_move rfl e46) (hK _ _ (Below.refl _ _) rfl)
      ·intro a w' hx hu hd K hK; have e47 := Flow.got (hd 1 rfl) 47 rfl; exact Flow.spare (Flow.spare_of (k := 47) rfl e47 rfl) (hK _ _ (Below.refl _ _) rfl)
      ·intro a w' hx hu hd K hK; have e47 := Flow.got (hd 1 rfl) 47 rfl; exact Flow.spare (Flow.spare_of (k := 47) rfl e47 rfl) (hK _ _ (Below.refl _ _) rfl)
      ·intro a w' hx hu hd K hK; have e47 := Flow.got (hd 1 rfl) 47 rfl; have e49 := Flow.got (hd 3 rfl) 49 rfl; exact Flow.run1 rfl (Flow.r_pick rfl e47 rfl) (hK _ _ (Below.refl _ _) rfl)
     intro vs W28 hb28 hT
     have v0 := Flow.eqn (hT 0 (by decide))
     have v1 := Flow.eqn (hT 1 (by decide))
     have v2 := Flow.eqn (hT 2 (by decide))
     have v3 := Flow.eqn (hT 3 (by decide))
     have v4 := Flow.eqn (hT 4 (by decide))
     simp only [Flow.putsT, v0, v1, v2, v3, v4, Act.put, List.setIfInBounds_toArray, List.set_cons_zero, List.set_cons_succ]
     clear hT v0 v1 v2 v3 v4
     have HB28 := Aside0.mk (below_step HB18.out hb28)
     have KA_17_18_28 := Aside0.mk (blk_below KA_17_18.out hb28)
     have K1_17_18_28 := Aside0.mk (blk_below K1_17_18.out hb28)
     have K2_17_18_28 := Aside0.mk (blk_below K2_17_18.out hb28)
     have K9_17_18_28 := Aside0.mk (blk_below K9_17_18.out hb28)
     clear hb28
     go_upto_region 14 with fail
     refine Flow.seqT (E := fun u v => Below u.heap.size u v) [(some 54, []), (some 55, [0]), (some 56, [1]), (some 57, [2, 1]), (some 58, [1, 3])] (fun iQ vQ wQ => match iQ with | 0 => vQ = (.bool false) | 1 => vQ = (.bool false) | 2 => vQ = undef | 3 => vQ = undef | 4 => vQ = (.bool false) | _ => True) rfl (by kernel_rfl) (Below.refl _ _) (fun _ _ _ h k => h.trans (k.mono h.size)) (fun _ _ _ _ h _ => h) ?_ ?_
     ·refine ⟨?_, ?_, ?_, ?_, ?_, trivial⟩
      ·intro a w' hx hu hd K hK; have e6 : a.tmps.getD 6 undef = (.bool false) := hu 6 rfl; exact Flow.run1 rfl (Flow.r_move rfl e6) (hK _ _ (Below.refl _ _) rfl)
      ·intro a w' hx hu hd K hK; have e54 := Flow.got (hd 0 rfl) 54 rfl; exact Flow.run1 rfl (Flow.r_move rfl e54) (hK _ _ (Below.refl _ _) rfl)
      ·intro a w' hx hu hd K hK; have e55 := Flow.got (hd 1 rfl) 55 rfl; exact Flow.spare (Flow.spare_of (k := 55) rfl e55 rfl) (hK _ _ (Below.refl _ _) rfl)
      ·intro a w' hx hu hd K hK; have e55 := Flow.got (hd 1 rfl) 55 rfl; exact Flow.spare (Flow.spare_of (k := 55) rfl e55 rfl) (hK _ _ (Below.refl _ _) rfl)
      ·intro a w' hx hu hd K hK; have e55 := Flow.got (hd 1 rfl) 55 rfl; have e57 := Flow.got (hd 3 rfl) 57 rfl; exact Flow.run1 rfl (Flow.r_pick rfl e55 rfl) (hK _ _ (Below.refl _ _) rfl)
     intro vs W29 hb29 hT
     have v0 := Flow.eqn (hT 0 (by decide))
     have v1 := Flow.eqn (hT 1 (by decide))
     have v2 := Flow.eqn (hT 2 (by decide))
     have v3 := Flow.eqn (hT 3 (by decide))
     have v4 := Flow.eqn (hT 4 (by decide))
     simp only [Flow.putsT, v0, v1, v2, v3, v4, Act.put, List.setIfInBounds_toArray, List.set_cons_zero, List.set_cons_succ]
     clear hT v0 v1 v2 v3 v4
     have HB29 := Aside0.mk (below_step HB28.out hb29)
     have KA_17_18_28_29 := Aside0.mk (blk_below KA_17_18_28.out hb29)
     have K1_17_18_28_29 := Aside0.mk (blk_below K1_17_18_28.out hb29)
     have K2_17_18_28_29 := Aside0.mk (blk_below K2_17_18_28.out hb29)
     have K9_17_18_28_29 := Aside0.mk (blk_below K9_17_18_28.out hb29)
     clear hb29
     have hvb : Value.slice none 0 0 = .slice Ab nb cb := by rw [← HVB.out]; unfold bP; rw [if_neg (by decide)]
     injection hvb with h1 h2 h3
     subst h1
     subst h2
     subst h3
     by_cases hk0 : kd = 0
     ·have HK0 := Aside0.mk hk0
      clear hk0
      have hf0 := HF.out
      unfold fillC at hf0
      rw [if_pos HK0.out] at hf0
      subst hf0
      clear HF
      have HFC := Aside0.mk (show fillC kd cm x.fua m0 m1 m2 (.slice none 0 0) = [.int .i64 kd, .int .i64 cm, .int .i64 m0, .int .i64 m1, .int .i64 m2, .slice none 0 0, .bool x.fua, .int .i64 0, .int .i64 0, .slice none 0 0] by unfold fillC; rw [if_pos HK0.out])
      go_upto_region 16 with fail
      refine Flow.seqT_head (E := fun u v => Below u.heap.size u v) 4 [(some 61, []), (some 62, []), (some 63, []), (some 64, [0, 1, 2]), (none, [3, 3, 0, 1, 2, 3])] (fun iQ vQ wQ => match iQ with | 0 => vQ = (.agg #[.int .i64 kd, .int .i64 cm, .int .i64 0, .int .i64 0, .int .i64 0, .slice none 0 0, .bool x.fua, .int .i64 0, .int .i64 0, .slice none 0 0]) | 1 => vQ = (.agg #[.int .i64 m0, .int .i64 m1, .int .i64 m2]) | 2 => vQ = (.slice none 0 0) | 3 => vQ = (.agg #[.int .i64 kd, .int .i64 cm, .int .i64 m0, .int .i64 m1, .int .i64 m2, .slice none 0 0, .bool x.fua, .int .i64 0, .int .i64 0, .slice none 0 0]) | _ => True) rfl (by decide) (by kernel_rfl) (Below.refl _ _) (fun _ _ _ h k => h.trans (k.mono h.size)) (fun _ _ _ _ h _ => h) ?_ ?_
      ·refine ⟨?_, ?_, ?_, ?_, trivial⟩
       ·intro a w' hx hu hd K hK; have e9 : a.tmps.getD 9 undef = (.pointer (some ⟨g7, 0, none⟩)) := hu 9 rfl; exact Flow.run1 rfl (ldrow rfl e9 (lies_block (blk_below K9_17_18_28_29.out hx)) Tryd.underlying56 rfl size56) (hK _ _ (Below.refl _ _) rfl)
       ·intro a w' hx hu hd K hK; have e10 : a.tmps.getD 10 undef = (.pointer (some ⟨g10, 0, none⟩)) := hu 10 rfl; exact Flow.run1 rfl (ldrow rfl e10 (lies_block (blk_below KA_17_18_28_29.out hx)) Tryd.underlying104 rfl size104) (hK _ _ (Below.refl _ _) rfl)
       ·intro a w' hx hu hd K hK; have e12 : a.tmps.getD 12 undef = (.slice none 0 0) := hu 12 rfl; exact Flow.run1 rfl (Flow.r_move rfl e12) (hK _ _ (Below.refl _ _) rfl)
       ·intro a w' hx hu hd K hK; have e61 := Flow.got (hd 0 rfl) 61 rfl; have e62 := Flow.got (hd 1 rfl) 62 rfl; have e63 := Flow.got (hd 2 rfl) 63 rfl; refine Flow.want rfl ?_; refine Flow.val_call rfl Tryd.func53 (by kernel_rfl) rfl (by simp only [List.map_toArray, List.map_cons, List.map_nil, Act.eval, e61, e62, e63] <;> rfl) (fill_at HFC.out w') ?_; rintro e w2 ⟨rfl, hb2⟩; exact ⟨_, rfl, hK _ _ hb2 (by rfl)⟩
      intro vs W30 hb30 hT
      have v0 := Flow.eqn (hT 0 (by decide))
      have v1 := Flow.eqn (hT 1 (by decide))
      have v2 := Flow.eqn (hT 2 (by decide))
      have v3 := Flow.eqn (hT 3 (by decide))
      simp only [Flow.putsT, v0, v1, v2, v3, Act.put, List.setIfInBounds_toArray, List.set_cons_zero, List.set_cons_succ, List.drop_succ_cons, List.drop_zero, List.take_succ_cons, List.take_zero]
      clear hT v0 v1 v2 v3
      have HB30 := Aside0.mk (below_step HB29.out hb30)
      have KA_17_18_28_29_30 := Aside0.mk (blk_below KA_17_18_28_29.out hb30)
      have K1_17_18_28_29_30 := Aside0.mk (blk_below K1_17_18_28_29.out hb30)
      have K2_17_18_28_29_30 := Aside0.mk (blk_below K2_17_18_28_29.out hb30)
      have K9_17_18_28_29_30 := Aside0.mk (blk_below K9_17_18_28_29.out hb30)
      clear hb30
      refine Cells.store_whole rfl rfl 56 _ _ rfl g2 [.int .i64 kd, .int .i64 cm, .int .i64 m0, .int .i64 m1, .int .i64 m2, .slice none 0 0, .bool x.fua, .int .i64 0, .int .i64 0, .slice none 0 0] #[.int .i64 0, .int .i64 0, .int .i64 0, .int .i64 0, .int .i64 0, .slice none 0 0, .bool false, .int .i64 0, .int .i64 0, .slice none 0 0] rfl rfl K2_17_18_28_29_30.out rfl size56 rfl ?_
      intro W31 hk31 hf31 hb31
      have HB31 := Aside0.mk (HB30.out.trans (hb31 _ Gg2.out))
      have KA_17_18_28_29_30_31 := Aside0.mk ((hf31 _ Ng2_g10.out).trans KA_17_18_28_29_30.out)
      have K1_17_18_28_29_30_31 := Aside0.mk ((hf31 _ Ng2_g1.out).trans K1_17_18_28_29_30.out)
      have K9_17_18_28_29_30_31 := Aside0.mk ((hf31 _ Ng2_g7.out).trans K9_17_18_28_29_30.out)
      have Kg2_31 := Aside0.mk hk31
      clear hk31 hf31 hb31
      go_wp2_with fail
      exact bodyPost_ret (results_cell_row Tryd.results36 _ _ g2 56 _ _ _ rfl Kg2_31.out Tryd.underlying56 rfl size56) rfl ⟨rfl, HB31.out⟩
     ·have HK0 := Aside0.mk hk0
      clear hk0
      by_cases hk1 : kd = 1
      ·have HK1 := Aside0.mk hk1
       clear hk1
       have hf0 := HF.out
       unfold fillC at hf0
       rw [if_neg HK0.out, if_pos HK1.out] at hf0
       subst hf0
       clear HF
       have HFC := Aside0.mk (show fillC kd cm x.fua m0 m1 m2 (.slice none 0 0) = [.int .i64 kd, .int .i64 cm, .int .i64 0, .int .i64 0, .int .i64 0, .slice none 0 0, .bool x.fua, .int .i64 0, .int .i64 m0, .slice none 0 0] by unfold fillC; rw [if_neg HK0.out, if_pos HK1.out])
       go_upto_region 16 with fail
       refine Flow.seqT_head (E := fun u v => Below u.heap.size u v) 4 [(some 61, []), (some 62, []), (some 63, []), (some 64, [0, 1, 2]), (none, [3, 3, 0, 1, 2, 3])] (fun iQ vQ wQ => match iQ with | 0 => vQ = (.agg #[.int .i64 kd, .int .i64 cm, .int .i64 0, .int .i64 0, .int .i64 0, .slice none 0 0, .bool x.fua, .int .i64 0, .int .i64 0, .slice none 0 0]) | 1 => vQ = (.agg #[.int .i64 m0, .int .i64 m1, .int .i64 m2]) | 2 => vQ = (.slice none 0 0) | 3 => vQ = (.agg #[.int .i64 kd, .int .i64 cm, .int .i64 0, .int .i64 0, .int .i64 0, .slice none 0 0, .bool x.fua, .int .i64 0, .int .i64 m0, .slice none 0 0]) | _ => True) rfl (by decide) (by kernel_rfl) (Below.refl _ _) (fun _ _ _ h k => h.trans (k.mono h.size)) (fun _ _ _ _ h _ => h) ?_ ?_
       ·refine ⟨?_, ?_, ?_, ?_, trivial⟩
        ·intro a w' hx hu hd K hK; have e9 : a.tmps.getD 9 undef = (.pointer (some ⟨g7, 0, none⟩)) := hu 9 rfl; exact Flow.run1 rfl (ldrow rfl e9 (lies_block (blk_below K9_17_18_28_29.out hx)) Tryd.underlying56 rfl size56) (hK _ _ (Below.refl _ _) rfl)
        ·intro a w' hx hu hd K hK; have e10 : a.tmps.getD 10 undef = (.pointer (some ⟨g10, 0, none⟩)) := hu 10 rfl; exact Flow.run1 rfl (ldrow rfl e10 (lies_block (blk_below KA_17_18_28_29.out hx)) Tryd.underlying104 rfl size104) (hK _ _ (Below.refl _ _) rfl)
        ·intro a w' hx hu hd K hK; have e12 : a.tmps.getD 12 undef = (.slice none 0 0) := hu 12 rfl; exact Flow.run1 rfl (Flow.r_move rfl e12) (hK _ _ (Below.refl _ _) rfl)
        ·intro a w' hx hu hd K hK; have e61 := Flow.got (hd 0 rfl) 61 rfl; have e62 := Flow.got (hd 1 rfl) 62 rfl; have e63 := Flow.got (hd 2 rfl) 63 rfl; refine Flow.want rfl ?_; refine Flow.val_call rfl Tryd.func53 (by kernel_rfl) rfl (by simp only [List.map_toArray, List.map_cons, List.map_nil, Act.eval, e61, e62, e63] <;> rfl) (fill_at HFC.out w') ?_; rintro e w2 ⟨rfl, hb2⟩; exact ⟨_, rfl, hK _ _ hb2 (by rfl)⟩
       intro vs W32 hb32 hT
       have v0 := Flow.eqn (hT 0 (by decide))
       have v1 := Flow.eqn (hT 1 (by decide))
       have v2 := Flow.eqn (hT 2 (by decide))
       have v3 := Flow.eqn (hT 3 (by decide))
       simp only [Flow.putsT, v0, v1, v2, v3, Act.put, List.setIfInBounds_toArray, List.set_cons_zero, List.set_cons_succ, List.drop_succ_cons, List.drop_zero, List.take_succ_cons, List.take_zero]
       clear hT v0 v1 v2 v3
       have HB32 := Aside0.mk (below_step HB29.out hb32)
       have KA_17_18_28_29_32 := Aside0.mk (blk_below KA_17_18_28_29.out hb32)
       have K1_17_18_28_29_32 := Aside0.mk (blk_below K1_17_18_28_29.out hb32)
       have K2_17_18_28_29_32 := Aside0.mk (blk_below K2_17_18_28_29.out hb32)
       have K9_17_18_28_29_32 := Aside0.mk (blk_below K9_17_18_28_29.out hb32)
       clear hb32
       refine Cells.store_whole rfl rfl 56 _ _ rfl g2 [.int .i64 kd, .int .i64 cm, .int .i64 0, .int .i64 0, .int .i64 0, .slice none 0 0, .bool x.fua, .int .i64 0, .int .i64 m0, .slice none 0 0] #[.int .i64 0, .int .i64 0, .int .i64 0, .int .i64 0, .int .i64 0, .slice none 0 0, .bool false, .int .i64 0, .int .i64 0, .slice none 0 0] rfl rfl K2_17_18_28_29_32.out rfl size56 rfl ?_
       intro W33 hk33 hf33 hb33
       have HB33 := Aside0.mk (HB32.out.trans (hb33 _ Gg2.out))
       have KA_17_18_28_29_32_33 := Aside0.mk ((hf33 _ Ng2_g10.out).trans KA_17_18_28_29_32.out)
       have K1_17_18_28_29_32_33 := Aside0.mk ((hf33 _ Ng2_g1.out).trans K1_17_18_28_29_32.out)
       have K9_17_18_28_29_32_33 := Aside0.mk ((hf33 _ Ng2_g7.out).trans K9_17_18_28_29_32.out)
       have Kg2_33 := Aside0.mk hk33
       clear hk33 hf33 hb33
       go_wp2_with fail
       exact bodyPost_ret (results_cell_row Tryd.results36 _ _ g2 56 _ _ _ rfl Kg2_33.out Tryd.underlying56 rfl size56) rfl ⟨rfl, HB33.out⟩
      ·have HK1 := Aside0.mk hk1
       clear hk1
       have hf0 := HF.out
       unfold fillC at hf0
       rw [if_neg HK0.out, if_neg HK1.out] at hf0
       subst hf0
       clear HF
       have HFC := Aside0.mk (show fillC kd cm x.fua m0 m1 m2 (.slice none 0 0) = [.int .i64 kd, .int .i64 cm, .int .i64 0, .int .i64 0, .int .i64 0, .slice none 0 0, .bool x.fua, .int .i64 m0, .int .i64 m1, .slice none 0 0] by unfold fillC; rw [if_neg HK0.out, if_neg HK1.out])
       go_upto_region 16 with fail
       refine Flow.seqT_head (E := fun u v => Below u.heap.size u v) 4 [(some 61, []), (some 62, []), (some 63, []), (some 64, [0, 1, 2]), (none, [3, 3, 0, 1, 2, 3])] (fun iQ vQ wQ => match iQ with | 0 => vQ = (.agg #[.int .i64 kd, .int .i64 cm, .int .i64 0, .int .i64 0, .int .i64 0, .slice none 0 0, .bool x.fua, .int .i64 0, .int .i64 0, .slice none 0 0]) | 1 => vQ = (.agg #[.int .i64 m0, .int .i64 m1, .int .i64 m2]) | 2 => vQ = (.slice none 0 0) | 3 => vQ = (.agg #[.int .i64 kd, .int .i64 cm, .int .i64 0, .int .i64 0, .int .i64 0, .slice none 0 0, .bool x.fua, .int .i64 m0, .int .i64 m1, .slice none 0 0]) | _ => True) rfl (by decide) (by kernel_rfl) (Below.refl _ _) (fun _ _ _ h k => h.trans (k.mono h.size)) (fun _ _ _ _ h _ => h) ?_ ?_
       ·refine ⟨?_, ?_, ?_, ?_, trivial⟩
        ·intro a w' hx hu hd K hK; have e9 : a.tmps.getD 9 undef = (.pointer (some ⟨g7, 0, none⟩)) := hu 9 rfl; exact Flow.run1 rfl (ldrow rfl e9 (lies_block (blk_below K9_17_18_28_29.out hx)) Tryd.underlying56 rfl size56) (hK _ _ (Below.refl _ _) rfl)
        ·intro a w' hx hu hd K hK; have e10 : a.tmps.getD 10 undef = (.pointer (some ⟨g10, 0, none⟩)) := hu 10 rfl; exact Flow.run1 rfl (ldrow rfl e10 (lies_block (blk_below KA_17_18_28_29.out hx)) Tryd.underlying104 rfl size104) (hK _ _ (Below.refl _ _) rfl)
        ·intro a w' hx hu hd K hK; have e12 : a.tmps.getD 12 undef = (.slice none 0 0) := hu 12 rfl; exact Flow.run1 rfl (Flow.r_move rfl e12) (hK _ _ (Below.refl _ _) rfl)
        ·intro a w' hx hu hd K hK; have e61 := Flow.got (hd 0 rfl) 61 rfl; have e62 := Flow.got (hd 1 rfl) 62 rfl; have e63 := Flow.got (hd 2 rfl) 63 rfl; refine Flow.want rfl ?_; refine Flow.val_call rfl Tryd.func53 (by kernel_rfl) rfl (by simp only [List.map_toArray, List.map_cons, List.map_nil, Act.eval, e61, e62, e63] <;> rfl) (fill_at HFC.out w') ?_; rintro e w2 ⟨rfl, hb2⟩; exact ⟨_, rfl, hK _ _ hb2 (by rfl)⟩
       intro vs W34 hb34 hT
       have v0 := Flow.eqn (hT 0 (by decide))
       have v1 := Flow.eqn (hT 1 (by decide))
       have v2 := Flow.eqn (hT 2 (by decide))
       have v3 := Flow.eqn (hT 3 (by decide))
       simp only [Flow.putsT, v0, v1, v2, v3, Act.put, List.setIfInBounds_toArray, List.set_cons_zero, List.set_cons_succ, List.drop_succ_cons, List.drop_zero, List.take_succ_cons, List.take_zero]
       clear hT v0 v1 v2 v3
       have HB34 := Aside0.mk (below_step HB29.out hb34)
       have KA_17_18_28_29_34 := Aside0.mk (blk_below KA_17_18_28_29.out hb34)
       have K1_17_18_28_29_34 := Aside0.mk (blk_below K1_17_18_28_29.out hb34)
       have K2_17_18_28_29_34 := Aside0.mk (blk_below K2_17_18_28_29.out hb34)
       have K9_17_18_28_29_34 := Aside0.mk (blk_below K9_17_18_28_29.out hb34)
       clear hb34
       refine Cells.store_whole rfl rfl 56 _ _ rfl g2 [.int .i64 kd, .int .i64 cm, .int .i64 0, .int .i64 0, .int .i64 0, .slice none 0 0, .bool x.fua, .int .i64 m0, .int .i64 m1, .slice none 0 0] #[.int .i64 0, .int .i64 0, .int .i64 0, .int .i64 0, .int .i64 0, .slice none 0 0, .bool false, .int .i64 0, .int .i64 0, .slice none 0 0] rfl rfl K2_17_18_28_29_34.out rfl size56 rfl ?_
       intro W35 hk35 hf35 hb35
       have HB35 := Aside0.mk (HB34.out.trans (hb35 _ Gg2.out))
       have KA_17_18_28_29_34_35 := Aside0.mk ((hf35 _ Ng2_g10.out).trans KA_17_18_28_29_34.out)
       have K1_17_18_28_29_34_35 := Aside0.mk ((hf35 _ Ng2_g1.out).trans K1_17_18_28_29_34.out)
       have K9_17_18_28_29_34_35 := Aside0.mk ((hf35 _ Ng2_g7.out).trans K9_17_18_28_29_34.out)
       have Kg2_35 := Aside0.mk hk35
       clear hk35 hf35 hb35
       go_wp2_with fail
       exact bodyPost_ret (results_cell_row Tryd.results36 _ _ g2 56 _ _ _ rfl Kg2_35.out Tryd.underlying56 rfl size56) rfl ⟨rfl, HB35.out⟩
 ·have HZ := Aside0.mk hz
  clear hz
  obtain rfl : false = fb := by rw [← HFB.out, decide_eq_false HZ.out]; rfl
  go_upto_region 5 with fail
  refine Flow.seqT_head (E := fun u v => Below u.heap.size u v) 11 [(some 26, []), (some 27, []), (some 28, []), (some 29, [2]), (some 30, [3]), (some 31, [4]), (some 32, [5, 4]), (some 33, [6, 4]), (some 34, [4, 7]), (some 35, [1, 8]), (some 36, [0, 9]), (some 9, []), (none, [11, 10, 4, 0, 1, 2, 3, 4, 5, 6, 7, 8, 9, 10, 11])] (fun iQ vQ wQ => match iQ with | 0 => vQ = (.int .i64 kd) | 1 => vQ = (.int .i64 cm) | 2 => vQ = (.int .i64 i) | 3 => vQ = (.bool false) | 4 => vQ = (.bool false) | 5 => vQ = undef | 6 => vQ = undef | 7 => vQ = undef | 8 => vQ = (.bool false) | 9 => vQ = (.agg #[.int .i64 cm, .int .i64 0, .int .i64 0, .int .i64 0, .slice none 0 0, .bool false]) | 10 => vQ = (.agg #[.int .i64 kd, .int .i64 cm, .int .i64 0, .int .i64 0, .int .i64 0, .slice none 0 0, .bool false, .int .i64 0, .int .i64 0, .slice none 0 0]) | _ => True) rfl (by decide) (by kernel_rfl) (Below.refl _ _) (fun _ _ _ h k => h.trans (k.mono h.size)) (fun _ _ _ _ h _ => h) ?_ ?_
  ·refine ⟨?_, ?_, ?_, ?_, ?_, ?_, ?_, ?_, ?_, ?_, ?_, trivial⟩
   ·intro a w' hx hu hd K hK; have e7 : a.tmps.getD 7 undef = (.int .i64 kd) := hu 7 rfl; exact Flow.run1 rfl (Flow.r_move rfl e7) (hK _ _ (Below.refl _ _) rfl)
   ·intro a w' hx hu hd K hK; have e8 : a.tmps.getD 8 undef = (.int .i64 cm) := hu 8 rfl; exact Flow.run1 rfl (Flow.r_move rfl e8) (hK _ _ (Below.refl _ _) rfl)
   ·intro a w' hx hu hd K hK; have e3 : a.tmps.getD 3 undef = (.int .i64 i) := hu 3 rfl; exact Flow.run1 rfl (Flow.r_move rfl e3) (hK _ _ (Below.refl _ _) rfl)
   ·intro a w' hx hu hd K hK; have e28 := Flow.got (hd 2 rfl) 28 rfl; exact Flow.run1 rfl (no (eql rfl e28 rfl) (beq_eq_false_iff_ne.2 (by have := HZ.out; omega))) (hK _ _ (Below.refl _ _) rfl)
   ·intro a w' hx hu hd K hK; have e29 := Flow.got (hd 3 rfl) 29 rfl; exact Flow.run1 rfl (Flow.r_move rfl e29) (hK _ _ (Below.refl _ _) rfl)
   ·intro a w' hx hu hd K hK; have e30 := Flow.got (hd 4 rfl) 30 rfl; exact Flow.spare (Flow.spare_of (k := 30) rfl e30 rfl) (hK _ _ (Below.refl _ _) rfl)
   ·intro a w' hx hu hd K hK; have e30 := Flow.got (hd 4 rfl) 30 rfl; exact Flow.spare (Flow.spare_of (k := 30) rfl e30 rfl) (hK _ _ (Below.refl _ _) rfl)
   ·intro a w' hx hu hd K hK; have e30 := Flow.got (hd 4 rfl) 30 rfl; exact Flow.spare (Flow.spare_of (k := 30) rfl e30 rfl) (hK _ _ (Below.refl _ _) rfl)
   ·intro a w' hx hu hd K hK; have e30 := Flow.got (hd 4 rfl) 30 rfl; have e33 := Flow.got (hd 7 rfl) 33 rfl; exact Flow.run1 rfl (Flow.r_pick rfl e30 rfl) (hK _ _ (Below.refl _ _) rfl)
   ·intro a w' hx hu hd K hK; have e27 := Flow.got (hd 1 rfl) 27 rfl; have e34 := Flow.got (hd 8 rfl) 34 rfl; exact Flow.run1 rfl (bld54_0_5 rfl e27 e34) (hK _ _ (Below.refl _ _) rfl)
   ·intro a w' hx hu hd K hK; have e26 := Flow.got (hd 0 rfl) 26 rfl; have e35 := Flow.got (hd 9 rfl) 35 rfl; exact Flow.run1 rfl (bld56_0_1 rfl e26 e35) (hK _ _ (Below.refl _ _) rfl)
  intro vs W36 hb36 hT
  have v0 := Flow.eqn (hT 0 (by decide))
  have v1 := Flow.eqn (hT 1 (by decide))
  have v2 := Flow.eqn (hT 2 (by decide))
  have v3 := Flow.eqn (hT 3 (by decide))
  have v4 := Flow.eqn (hT 4 (by decide))
  have v5 := Flow.eqn (hT 5 (by decide))
  have v6 := Flow.eqn (hT 6 (by decide))
  have v7 := Flow.eqn (hT 7 (by decide))
  have v8 := Flow.eqn (hT 8 (by decide))
  have v9 := Flow.eqn (hT 9 (by decide))
  have v10 := Flow.eqn (hT 10 (by decide))
  simp only [Flow.putsT, v0, v1, v2, v3, v4, v5, v6, v7, v8, v9, v10, Act.put, List.setIfInBounds_toArray, List.set_cons_zero, List.set_cons_succ, List.drop_succ_cons, List.drop_zero, List.take_succ_cons, List.take_zero]
  clear hT v0 v1 v2 v3 v4 v5 v6 v7 v8 v9 v10
  have HB36 := Aside0.mk (below_step HB5.out hb36)
  have Kg1_2_3_4_5_36 := Aside0.mk (blk_below Kg1_2_3_4_5.out hb36)
  have Kg2_3_4_5_36 := Aside0.mk (blk_below Kg2_3_4_5.out hb36)
  clear hb36
  refine ealloc rfl rfl zero56_is ?_
  intro g37 hg37 W37 hk37 hb37
  have Kg37 := Aside0.mk hk37
  have Ng37_g1 := Aside0.mk (show g1 ≠ g37 by have := (Array.getElem?_eq_some_iff.1 Kg1_2_3_4_5_36.out).1; omega)
  have Ng1_g37 := Aside0.mk (Ne.symm Ng37_g1.out)
  have Ng37_g2 := Aside0.mk (show g2 ≠ g37 by have := (Array.getElem?_eq_some_iff.1 Kg2_3_4_5_36.out).1; omega)
  have Ng2_g37 := Aside0.mk (Ne.symm Ng37_g2.out)
  have HB37 := Aside0.mk (below_step HB36.out hb37)
  have Kg1_2_3_4_5_36_37 := Aside0.mk (blk_below Kg1_2_3_4_5_36.out hb37)
  have Kg2_3_4_5_36_37 := Aside0.mk (blk_below Kg2_3_4_5_36.out hb37)
  clear hb37
  have Gg37 := Aside0.mk (show w.heap.size ≤ g37 by rw [hg37]; exact HB36.out.size)
  clear hg37 hk37
  simp only [Act.put, List.setIfInBounds_toArray, List.set_cons_zero, List.set_cons_succ]
  refine Cells.store_whole rfl rfl 56 _ _ rfl g37 [.int .i64 kd, .int .i64 cm, .int .i64 0, .int .i64 0, .int .i64 0, .slice none 0 0, .bool false, .int .i64 0, .int .i64 0, .slice none 0 0] #[.int .i64 0, .int .i64 0, .int .i64 0, .int .i64 0, .int .i64 0, .slice none 0 0, .bool false, .int .i64 0, .int .i64 0, .slice none 0 0] rfl rfl Kg37.out rfl size56 rfl ?_
  intro W38 hk38 hf38 hb38
  have HB38 := Aside0.mk (HB37.out.trans (hb38 _ Gg37.out))
  have Kg1_2_3_4_5_36_37_38 := Aside0.mk ((hf38 _ Ng37_g1.out).trans Kg1_2_3_4_5_36_37.out)
  have Kg2_3_4_5_36_37_38 := Aside0.mk ((hf38 _ Ng37_g2.out).trans Kg2_3_4_5_36_37.out)
  have Kg37_38 := Aside0.mk hk38
  clear hk38 hf38 hb38
  go_upto_region 6 with fail
  refine Flow.seqT_head (E := fun u v => Below u.heap.size u v) 2 [(some 37, []), (some 38, [0]), (some 10, []), (none, [2, 1, 1, 0, 1, 2])] (fun iQ vQ wQ => match iQ with | 0 => vQ = (.agg #[.int .i64 x.kind, .int .i64 x.cmd, .int .i64 x.zone, .int .i64 x.at_, .int .i64 x.n, .slice Ad nd cd, .bool x.fua, .int .i64 x.m, .int .i64 x.k, .slice Ak nk ck]) | 1 => vQ = (.agg #[.int .i64 (n3 x 0), .int .i64 (n3 x 1), .int .i64 (n3 x 2)]) | _ => True) rfl (by decide) (by kernel_rfl) (Below.refl _ _) (fun _ _ _ h k => h.trans (k.mono h.size)) (fun _ _ _ _ h _ => h) ?_ ?_
  ·refine ⟨?_, ?_, trivial⟩
   ·intro a w' hx hu hd K hK; have e1 : a.tmps.getD 1 undef = (.pointer (some ⟨g1, 0, none⟩)) := hu 1 rfl; exact Flow.run1 rfl (ldrow rfl e1 (lies_block (blk_below Kg1_2_3_4_5_36_37_38.out hx)) Tryd.underlying56 rfl size56) (hK _ _ (Below.refl _ _) rfl)
   ·intro a w' hx hu hd K hK; have e37 := Flow.got (hd 0 rfl) 37 rfl; refine Flow.want rfl ?_; refine Flow.val_call rfl Tryd.func59 (by kernel_rfl) rfl (by simp only [List.map_toArray, List.map_cons, List.map_nil, Act.eval, e37] <;> rfl) (rnumbers_c x Ad Ak nd cd nk ck w') ?_; rintro e w2 ⟨rfl, hb2⟩; exact ⟨_, rfl, hK _ _ hb2 (by rfl)⟩
  intro vs W39 hb39 hT
  have v0 := Flow.eqn (hT 0 (by decide))
  have v1 := Flow.eqn (hT 1 (by decide))
  simp only [Flow.putsT, v0, v1, Act.put, List.setIfInBounds_toArray, List.set_cons_zero, List.set_cons_succ, List.drop_succ_cons, List.drop_zero, List.take_succ_cons, List.take_zero]
  clear hT v0 v1
  have HB39 := Aside0.mk (below_step HB38.out hb39)
  have Kg1_2_3_4_5_36_37_38_39 := Aside0.mk (blk_below Kg1_2_3_4_5_36_37_38.out hb39)
  have Kg2_3_4_5_36_37_38_39 := Aside0.mk (blk_below Kg2_3_4_5_36_37_38.out hb39)
  have Kg37_38_39 := Aside0.mk (blk_below Kg37_38.out hb39)
  clear hb39
  refine ealloc rfl rfl zero104_is ?_
  intro g40 hg40 W40 hk40 hb40
  have Kg40 := Aside0.mk hk40
  have Ng40_g1 := Aside0.mk (show g1 ≠ g40 by have := (Array.getElem?_eq_some_iff.1 Kg1_2_3_4_5_36_37_38_39.out).1; omega)
  have Ng1_g40 := Aside0.mk (Ne.symm Ng40_g1.out)
  have Ng40_g2 := Aside0.mk (show g2 ≠ g40 by have := (Array.getElem?_eq_some_iff.1 Kg2_3_4_5_36_37_38_39.out).1; omega)
  have Ng2_g40 := Aside0.mk (Ne.symm Ng40_g2.out)
  have Ng40_g37 := Aside0.mk (show g37 ≠ g40 by have := (Array.getElem?_eq_some_iff.1 Kg37_38_39.out).1; omega)
  have Ng37_g40 := Aside0.mk (Ne.symm Ng40_g37.out)
  have HB40 := Aside0.mk (below_step HB39.out hb40)
  have Kg1_2_3_4_5_36_37_38_39_40 := Aside0.mk (blk_below Kg1_2_3_4_5_36_37_38_39.out hb40)
  have Kg2_3_4_5_36_37_38_39_40 := Aside0.mk (blk_below Kg2_3_4_5_36_37_38_39.out hb40)
  have Kg37_38_39_40 := Aside0.mk (blk_below Kg37_38_39.out hb40)
  clear hb40
  have Gg40 := Aside0.mk (show w.heap.size ≤ g40 by rw [hg40]; exact HB39.out.size)
  clear hg40 hk40
  simp only [Act.put, List.setIfInBounds_toArray, List.set_cons_zero, List.set_cons_succ]
  refine Cells.store_whole rfl rfl 104 _ _ rfl g40 [.int .i64 (n3 x 0), .int .i64 (n3 x 1), .int .i64 (n3 x 2)] #[.int .i64 0, .int .i64 0, .int .i64 0] rfl rfl Kg40.out rfl size104 rfl ?_
  intro W41 hk41 hf41 hb41
  have HB41 := Aside0.mk (HB40.out.trans (hb41 _ Gg40.out))
  have Kg1_2_3_4_5_36_37_38_39_40_41 := Aside0.mk ((hf41 _ Ng40_g1.out).trans Kg1_2_3_4_5_36_37_38_39_40.out)
  have Kg2_3_4_5_36_37_38_39_40_41 := Aside0.mk ((hf41 _ Ng40_g2.out).trans Kg2_3_4_5_36_37_38_39_40.out)
  have Kg37_38_39_40_41 := Aside0.mk ((hf41 _ Ng40_g37.out).trans Kg37_38_39_40.out)
  have Kg40_41 := Aside0.mk hk41
  clear hk41 hf41 hb41
  go_upto_region 7 with fail
  refine Flow.seqT (E := fun u v => Below u.heap.size u v) [(some 39, []), (some 11, [0, 0])] (fun iQ vQ wQ => match iQ with | 0 => vQ = (.int .i64 mn) | 1 => vQ = (.int .i64 mn) | _ => True) rfl (by kernel_rfl) (Below.refl _ _) (fun _ _ _ h k => h.trans (k.mono h.size)) (fun _ _ _ _ h _ => h) ?_ ?_
  ·refine ⟨?_, ?_, trivial⟩
   ·intro a w' hx hu hd K hK; have e5 : a.tmps.getD 5 undef = (.int .i64 mn) := hu 5 rfl; exact Flow.run1 rfl (Flow.r_move rfl e5) (hK _ _ (Below.refl _ _) rfl)
   ·intro a w' hx hu hd K hK; have e39 := Flow.got (hd 0 rfl) 39 rfl; exact Flow.run1 rfl (Flow.r_assign rfl e39) (hK _ _ (Below.refl _ _) rfl)
  intro vs W42 hb42 hT
  have v0 := Flow.eqn (hT 0 (by decide))
  have v1 := Flow.eqn (hT 1 (by decide))
  simp only [Flow.putsT, v0, v1, Act.put, List.setIfInBounds_toArray, List.set_cons_zero, List.set_cons_succ]
  clear hT v0 v1
  have HB42 := Aside0.mk (below_step HB41.out hb42)
  have Kg1_2_3_4_5_36_37_38_39_40_41_42 := Aside0.mk (blk_below Kg1_2_3_4_5_36_37_38_39_40_41.out hb42)
  have Kg2_3_4_5_36_37_38_39_40_41_42 := Aside0.mk (blk_below Kg2_3_4_5_36_37_38_39_40_41.out hb42)
  have Kg37_38_39_40_41_42 := Aside0.mk (blk_below Kg37_38_39_40_41.out hb42)
  have Kg40_41_42 := Aside0.mk (blk_below Kg40_41.out hb42)
  clear hb42
  go_wp2
  go_loopg [11] 3 (fun g v11 wr => ∃ k : Nat, mn ≤ k ∧ k ≤ 3 ∧ Aside0 (3 - k ≤ g) ∧ v11 = .int .i64 k ∧ Aside0 (Below w.heap.size w wr) ∧ Aside0 (wr.heap[g40]? = some (.cells #[.int .i64 (cz x mn k 0), .int .i64 (cz x mn k 1), .int .i64 (cz x mn k 2)] 104 (0, 0))) ∧ Aside0 (wr.heap[g1]? = some (.cells #[.int .i64 x.kind, .int .i64 x.cmd, .int .i64 x.zone, .int .i64 x.at_, .int .i64 x.n, .slice Ad nd cd, .bool x.fua, .int .i64 x.m, .int .i64 x.k, .slice Ak nk ck] 56 (0, 0))) ∧ Aside0 (wr.heap[g2]? = some (.cells #[.int .i64 0, .int .i64 0, .int .i64 0, .int .i64 0, .int .i64 0, .slice none 0 0, .bool false, .int .i64 0, .int .i64 0, .slice none 0 0] 56 (0, 0))) ∧ Aside0 (wr.heap[g37]? = some (.cells #[.int .i64 kd, .int .i64 cm, .int .i64 0, .int .i64 0, .int .i64 0, .slice none 0 0, .bool false, .int .i64 0, .int .i64 0, .slice none 0 0] 56 (0, 0))))
  case atStart => exact ⟨mn, Nat.le_refl _, hm3, ⟨by omega⟩, rfl, HB42, ⟨by rw [cz_start, cz_start, cz_start]; exact Kg40_41_42.out⟩, Kg1_2_3_4_5_36_37_38_39_40_41_42, Kg2_3_4_5_36_37_38_39_40_41_42, Kg37_38_39_40_41_42⟩
  case round =>
   clear HB42 Kg40_41_42 Kg1_2_3_4_5_36_37_38_39_40_41_42 Kg2_3_4_5_36_37_38_39_40_41_42 Kg37_38_39_40_41_42
   obtain ⟨k, hmk, hk3, HGK, rfl, HBR, KA, K1, K2, K9⟩ := hrel
   by_cases hlt : k < 3
   ·have hlt2 : (k : Int) < 3 := by omega
    go_upto_region 8 with fail
    refine Flow.seqT (E := fun u v => Below u.heap.size u v) [(some 40, []), (some 41, [0])] (fun iQ vQ wQ => match iQ with | 0 => vQ = (.int .i64 k) | 1 => vQ = (.bool true) | _ => True) rfl (by kernel_rfl) (Below.refl _ _) (fun _ _ _ h k => h.trans (k.mono h.size)) (fun _ _ _ _ h _ => h) ?_ ?_
    ·refine ⟨?_, ?_, trivial⟩
     ·intro a w' hx hu hd K hK; have e11 : a.tmps.getD 11 undef = (.int .i64 k) := hu 11 rfl; exact Flow.run1 rfl (Flow.r_move rfl e11) (hK _ _ (Below.refl _ _) rfl)
     ·intro a w' hx hu hd K hK; have e40 := Flow.got (hd 0 rfl) 40 rfl; exact Flow.run1 rfl (yes (lss rfl e40 rfl) (decide_eq_true hlt2)) (hK _ _ (Below.refl _ _) rfl)
    intro vs W43 hb43 hT
    have v0 := Flow.eqn (hT 0 (by decide))
    have v1 := Flow.eqn (hT 1 (by decide))
    simp only [Flow.putsT, v0, v1, Act.put, List.setIfInBounds_toArray, List.set_cons_zero, List.set_cons_succ]
    clear hT v0 v1
    have HB43 := Aside0.mk (below_step HBR.out hb43)
    have KA_43 := Aside0.mk (blk_below KA.out hb43)
    have K1_43 := Aside0.mk (blk_below K1.out hb43)
    have K2_43 := Aside0.mk (blk_below K2.out hb43)
    have K9_43 := Aside0.mk (blk_below K9.out hb43)
    clear hb43
    go_upto_region 10 with fail
    refine Flow.seqT_head (E := fun u v => Below u.heap.size u v) 2 [(some 44, []), (some 45, [0, 0]), (none, [1, 0])] (fun iQ vQ wQ => match iQ with | 0 => vQ = (.int .i64 k) | 1 => vQ = (.pointer (some ⟨g40, 0 + k, none⟩)) | _ => True) rfl (by decide) (by kernel_rfl) (Below.refl _ _) (fun _ _ _ h k => h.trans (k.mono h.size)) (fun _ _ _ _ h _ => h) ?_ ?_
    ·refine ⟨?_, ?_, trivial⟩
     ·intro a w' hx hu hd K hK; have e11 : a.tmps.getD 11 undef = (.int .i64 k) := hu 11 rfl; exact Flow.run1 rfl (Flow.r_move rfl e11) (hK _ _ (Below.refl _ _) rfl)
     ·intro a w' hx hu hd K hK; have e10 : a.tmps.getD 10 undef = (.pointer (some ⟨g40, 0, none⟩)) := hu 10 rfl; have e44 := Flow.got (hd 0 rfl) 44 rfl; exact Flow.run1 rfl (ixa (i := k) arr104_u arr104_l arr104_e size3 rfl e10 e44 (by omega)) (hK _ _ (Below.refl _ _) rfl)
    intro vs W44 hb44 hT
    have v0 := Flow.eqn (hT 0 (by decide))
    have v1 := Flow.eqn (hT 1 (by decide))
    simp only [Flow.putsT, v0, v1, Act.put, List.setIfInBounds_toArray, List.set_cons_zero, List.set_cons_succ, List.drop_succ_cons, List.drop_zero, List.take_succ_cons, List.take_zero]
    clear hT v0 v1
    have HB44 := Aside0.mk (below_step HB43.out hb44)
    have KA_43_44 := Aside0.mk (blk_below KA_43.out hb44)
    have K1_43_44 := Aside0.mk (blk_below K1_43.out hb44)
    have K2_43_44 := Aside0.mk (blk_below K2_43.out hb44)
    have K9_43_44 := Aside0.mk (blk_below K9_43.out hb44)
    clear hb44
    refine put_event rfl rfl 3 _ _ rfl g40 (0 + k) (.int .i64 0) #[.int .i64 (cz x mn k 0), .int .i64 (cz x mn k 1), .int .i64 (cz x mn k 2)] #[.int .i64 (cz x mn (k + 1) 0), .int .i64 (cz x mn (k + 1) 1), .int .i64 (cz x mn (k + 1) 2)] rfl rfl rfl size3 KA_43_44.out (show 0 + k < 3 by omega) (cz_put (by omega) hmk) ?_
    intro W45 hk45 hf45 hb45
    have HB45 := Aside0.mk (HB44.out.trans (hb45 _ Gg40.out))
    have Kg40_45 := Aside0.mk hk45
    have K1_43_44_45 := Aside0.mk ((hf45 _ Ng40_g1.out).trans K1_43_44.out)
    have K2_43_44_45 := Aside0.mk ((hf45 _ Ng40_g2.out).trans K2_43_44.out)
    have K9_43_44_45 := Aside0.mk ((hf45 _ Ng40_g37.out).trans K9_43_44.out)
    clear hk45 hf45 hb45
    obtain ⟨k1, K1H⟩ : ∃ q, Aside0 (k + 1 = q) := ⟨_, ⟨rfl⟩⟩
    have hk1 := K1H.out
    go_upto_region 9 with fail
    refine Flow.seqT (E := fun u v => Below u.heap.size u v) [(some 42, []), (some 43, [0]), (some 11, [1, 0, 1])] (fun iQ vQ wQ => match iQ with | 0 => vQ = (.int .i64 k) | 1 => vQ = (.int .i64 k1) | 2 => vQ = (.int .i64 k1) | _ => True) rfl (by kernel_rfl) (Below.refl _ _) (fun _ _ _ h k => h.trans (k.mono h.size)) (fun _ _ _ _ h _ => h) ?_ ?_
    ·refine ⟨?_, ?_, ?_, trivial⟩
     ·intro a w' hx hu hd K hK; have e11 : a.tmps.getD 11 undef = (.int .i64 k) := hu 11 rfl; exact Flow.run1 rfl (Flow.r_move rfl e11) (hK _ _ (Below.refl _ _) rfl)
     ·intro a w' hx hu hd K hK; have e42 := Flow.got (hd 0 rfl) 42 rfl; exact Flow.run1 rfl (addk rfl e42 rfl (by omega) (by omega) (by omega)) (hK _ _ (Below.refl _ _) rfl)
     ·intro a w' hx hu hd K hK; have e43 := Flow.got (hd 1 rfl) 43 rfl; exact Flow.run1 rfl (Flow.r_assign rfl e43) (hK _ _ (Below.refl _ _) rfl)
    intro vs W46 hb46 hT
    have v0 := Flow.eqn (hT 0 (by decide))
    have v1 := Flow.eqn (hT 1 (by decide))
    have v2 := Flow.eqn (hT 2 (by decide))
    simp only [Flow.putsT, v0, v1, v2, Act.put, List.setIfInBounds_toArray, List.set_cons_zero, List.set_cons_succ]
    clear hT v0 v1 v2
    have HB46 := Aside0.mk (below_step HB45.out hb46)
    have Kg40_45_46 := Aside0.mk (blk_below Kg40_45.out hb46)
    have K1_43_44_45_46 := Aside0.mk (blk_below K1_43_44_45.out hb46)
    have K2_43_44_45_46 := Aside0.mk (blk_below K2_43_44_45.out hb46)
    have K9_43_44_45_46 := Aside0.mk (blk_below K9_43_44_45.out hb46)
    clear hb46
    go_wp2
    go_roundg (3 - (k + 1))
    case measure => have := HGK.out; omega
    case rel => exact ⟨k1, by omega, by omega, ⟨by omega⟩, rfl, HB46, ⟨by rw [← hk1]; exact Kg40_45_46.out⟩, K1_43_44_45_46, K2_43_44_45_46, K9_43_44_45_46⟩
   ·obtain rfl : k = 3 := by omega
    have hlt2 : ¬ ((3 : Nat) : Int) < 3 := by omega
    rw [cz_end x (by decide), cz_end x (by decide), cz_end x (by decide), HM0.out, HM1.out, HM2.out] at KA
    go_upto_region 8 with fail
    refine Flow.seqT (E := fun u v => Below u.heap.size u v) [(some 40, []), (some 41, [0])] (fun iQ vQ wQ => match iQ with | 0 => vQ = (.int .i64 3) | 1 => vQ = (.bool false) | _ => True) rfl (by kernel_rfl) (Below.refl _ _) (fun _ _ _ h k => h.trans (k.mono h.size)) (fun _ _ _ _ h _ => h) ?_ ?_
    ·refine ⟨?_, ?_, trivial⟩
     ·intro a w' hx hu hd K hK; have e11 : a.tmps.getD 11 undef = (.int .i64 3) := hu 11 rfl; exact Flow.run1 rfl (Flow.r_move rfl e11) (hK _ _ (Below.refl _ _) rfl)
     ·intro a w' hx hu hd K hK; have e40 := Flow.got (hd 0 rfl) 40 rfl; exact Flow.run1 rfl (no (lss rfl e40 rfl) (decide_eq_false hlt2)) (hK _ _ (Below.refl _ _) rfl)
    intro vs W47 hb47 hT
    have v0 := Flow.eqn (hT 0 (by decide))
    have v1 := Flow.eqn (hT 1 (by decide))
    simp only [Flow.putsT, v0, v1, Act.put, List.setIfInBounds_toArray, List.set_cons_zero, List.set_cons_succ]
    clear hT v0 v1
    have HB47 := Aside0.mk (below_step HBR.out hb47)
    have KA_47 := Aside0.mk (blk_below KA.out hb47)
    have K1_47 := Aside0.mk (blk_below K1.out hb47)
    have K2_47 := Aside0.mk (blk_below K2.out hb47)
    have K9_47 := Aside0.mk (blk_below K9.out hb47)
    clear hb47
    go_upto_region 11 with fail
    refine Flow.seqT (E := fun u v => Below u.heap.size u v) [(some 12, [])] (fun iQ vQ wQ => match iQ with | 0 => vQ = (.slice none 0 0) | _ => True) rfl (by kernel_rfl) (Below.refl _ _) (fun _ _ _ h k => h.trans (k.mono h.size)) (fun _ _ _ _ h _ => h) ?_ ?_
    ·refine ⟨?_, trivial⟩
     ·intro a w' hx hu hd K hK; exact Flow.run1 rfl (Flow.r_assign rfl rfl) (hK _ _ (Below.refl _ _) rfl)
    intro vs W48 hb48 hT
    have v0 := Flow.eqn (hT 0 (by decide))
    simp only [Flow.putsT, v0, Act.put, List.setIfInBounds_toArray, List.set_cons_zero, List.set_cons_succ]
    clear hT v0
    have HB48 := Aside0.mk (below_step HB47.out hb48)
    have KA_47_48 := Aside0.mk (blk_below KA_47.out hb48)
    have K1_47_48 := Aside0.mk (blk_below K1_47.out hb48)
    have K2_47_48 := Aside0.mk (blk_below K2_47.out hb48)
    have K9_47_48 := Aside0.mk (blk_below K9_47.out hb48)
    clear hb48
    cases bb with
    | true =>
     go_upto_region 12 with fail
     refine Flow.seqT (E := fun u v => Below u.heap.size u v) [(some 46, []), (some 47, [0]), (some 48, [1]), (some 49, [2, 1]), (some 50, [1, 3])] (fun iQ vQ wQ => match iQ with | 0 => vQ = (.bool true) | 1 => vQ = (.bool true) | 2 => vQ = (.int .i64 i) | 3 => vQ = (.bool false) | 4 => vQ = (.bool false) | _ => True) rfl (by kernel_rfl) (Below.refl _ _) (fun _ _ _ h k => h.trans (k.mono h.size)) (fun _ _ _ _ h _ => h) ?_ ?_
     ·refine ⟨?_, ?_, ?_, ?_, ?_, trivial⟩
      ·intro a w' hx hu hd K hK; have e6 : a.tmps.getD 6 undef = (.bool true) := hu 6 rfl; exact Flow.run1 rfl (Flow.r_move rfl e6) (hK _ _ (Below.refl _ _) rfl)
      ·intro a w' hx hu hd K hK; have e46 := Flow.got (hd 0 rfl) 46 rfl; exact Flow.run1 rfl (Flow.r_move rfl e46) (hK _ _ (Below.refl _ _) rfl)
      ·intro a w' hx hu hd K hK; have e3 : a.tmps.getD 3 undef = (.int .i64 i) := hu 3 rfl; have e47 := Flow.got (hd 1 rfl) 47 rfl; exact Flow.run1 (Flow.want_of (k := 47) rfl e47) (Flow.r_move rfl e3) (hK _ _ (Below.refl _ _) rfl)
      ·intro a w' hx hu hd K hK; have e48 := Flow.got (hd 2 rfl) 48 rfl; have e47 := Flow.got (hd 1 rfl) 47 rfl; exact Flow.run1 (Flow.want_of (k := 47) rfl e47) (no (eql rfl e48 rfl) (beq_eq_false_iff_ne.2 (by have := HZ.out; omega))) (hK _ _ (Below.refl _ _) rfl)
      ·intro a w' hx hu hd K hK; have e47 := Flow.got (hd 1 rfl) 47 rfl; have e49 := Flow.got (hd 3 rfl) 49 rfl; exact Flow.run1 rfl (Flow.r_pick rfl e47 e49) (hK _ _ (Below.refl _ _) rfl)
     intro vs W49 hb49 hT
     have v0 := Flow.eqn (hT 0 (by decide))
     have v1 := Flow.eqn (hT 1 (by decide))
     have v2 := Flow.eqn (hT 2 (by decide))
     have v3 := Flow.eqn (hT 3 (by decide))
     have v4 := Flow.eqn (hT 4 (by decide))
     simp only [Flow.putsT, v0, v1, v2, v3, v4, Act.put, List.setIfInBounds_toArray, List.set_cons_zero, List.set_cons_succ]
     clear hT v0 v1 v2 v3 v4
     have HB49 := Aside0.mk (below_step HB48.out hb49)
     have KA_47_48_49 := Aside0.mk (blk_below KA_47_48.out hb49)
     have K1_47_48_49 := Aside0.mk (blk_below K1_47_48.out hb49)
     have K2_47_48_49 := Aside0.mk (blk_below K2_47_48.out hb49)
     have K9_47_48_49 := Aside0.mk (blk_below K9_47_48.out hb49)
     clear hb49
     go_upto_region 14 with fail
     refine Flow.seqT (E := fun u v => Below u.heap.size u v) [(some 54, []), (some 55, [0]), (some 56, [1]), (some 57, [2, 1]), (some 58, [1, 3])] (fun iQ vQ wQ => match iQ with | 0 => vQ = (.bool true) | 1 => vQ = (.bool true) | 2 => vQ = (.int .i64 i) | 3 => vQ = (.bool true) | 4 => vQ = (.bool true) | _ => True) rfl (by kernel_rfl) (Below.refl _ _) (fun _ _ _ h k => h.trans (k.mono h.size)) (fun _ _ _ _ h _ => h) ?_ ?_
     ·refine ⟨?_, ?_, ?_, ?_, ?_, trivial⟩
      ·intro a w' hx hu hd K hK; have e6 : a.tmps.getD 6 undef = (.bool true) := hu 6 rfl; exact Flow.run1 rfl (Flow.r_move rfl e6) (hK _ _ (Below.refl _ _) rfl)
      ·intro a w' hx hu hd K hK; have e54 := Flow.got (hd 0 rfl) 54 rfl; exact Flow.run1 rfl (Flow.r_move rfl e54) (hK _ _ (Below.refl _ _) rfl)
      ·intro a w' hx hu hd K hK; have e3 : a.tmps.getD 3 undef = (.int .i64 i) := hu 3 rfl; have e55 := Flow.got (hd 1 rfl) 55 rfl; exact Flow.run1 (Flow.want_of (k := 55) rfl e55) (Flow.r_move rfl e3) (hK _ _ (Below.refl _ _) rfl)
      ·intro a w' hx hu hd K hK; have e56 := Flow.got (hd 2 rfl) 56 rfl; have e55 := Flow.got (hd 1 rfl) 55 rfl; exact Flow.run1 (Flow.want_of (k := 55) rfl e55) (yes (gtr rfl e56 rfl) (decide_eq_true (by have := HZ.out; omega))) (hK _ _ (Below.refl _ _) rfl)
      ·intro a w' hx hu hd K hK; have e55 := Flow.got (hd 1 rfl) 55 rfl; have e57 := Flow.got (hd 3 rfl) 57 rfl; exact Flow.run1 rfl (Flow.r_pick rfl e55 e57) (hK _ _ (Below.refl _ _) rfl)
     intro vs W50 hb50 hT
     have v0 := Flow.eqn (hT 0 (by decide))
     have v1 := Flow.eqn (hT 1 (by decide))
     have v2 := Flow.eqn (hT 2 (by decide))
     have v3 := Flow.eqn (hT 3 (by decide))
     have v4 := Flow.eqn (hT 4 (by decide))
     simp only [Flow.putsT, v0, v1, v2, v3, v4, Act.put, List.setIfInBounds_toArray, List.set_cons_zero, List.set_cons_succ]
     clear hT v0 v1 v2 v3 v4
     have HB50 := Aside0.mk (below_step HB49.out hb50)
     have KA_47_48_49_50 := Aside0.mk (blk_below KA_47_48_49.out hb50)
     have K1_47_48_49_50 := Aside0.mk (blk_below K1_47_48_49.out hb50)
     have K2_47_48_49_50 := Aside0.mk (blk_below K2_47_48_49.out hb50)
     have K9_47_48_49_50 := Aside0.mk (blk_below K9_47_48_49.out hb50)
     clear hb50
     go_upto_region 15 with fail
     refine Flow.seqT (E := fun u v => Below u.heap.size u v) [(some 59, []), (some 60, [0]), (some 12, [1, 0, 1])] (fun iQ vQ wQ => match iQ with | 0 => vQ = (.pointer (some ⟨g1, 9, none⟩)) | 1 => vQ = (.slice Ak nk ck) | 2 => vQ = (.slice Ak nk ck) | _ => True) rfl (by kernel_rfl) (Below.refl _ _) (fun _ _ _ h k => h.trans (k.mono h.size)) (fun _ _ _ _ h _ => h) ?_ ?_
     ·refine ⟨?_, ?_, ?_, trivial⟩
      ·intro a w' hx hu hd K hK; have e1 : a.tmps.getD 1 undef = (.pointer (some ⟨g1, 0, none⟩)) := hu 1 rfl; exact Flow.run1 rfl (fa rfl e1 (fa56_4 _ _ _)) (hK _ _ (Below.refl _ _) rfl)
      ·intro a w' hx hu hd K hK; have e59 := Flow.got (hd 0 rfl) 59 rfl; exact Flow.run1 rfl (ld rfl e59 ((blk_cell (blk_below K1_47_48_49_50.out hx) 9).trans rfl) Tryd.underlying43 rfl) (hK _ _ (Below.refl _ _) rfl)
      ·intro a w' hx hu hd K hK; have e60 := Flow.got (hd 1 rfl) 60 rfl; exact Flow.run1 rfl (Flow.r_assign rfl e60) (hK _ _ (Below.refl _ _) rfl)
     intro vs W51 hb51 hT
     have v0 := Flow.eqn (hT 0 (by decide))
     have v1 := Flow.eqn (hT 1 (by decide))
     have v2 := Flow.eqn (hT 2 (by decide))
     simp only [Flow.putsT, v0, v1, v2, Act.put, List.setIfInBounds_toArray, List.set_cons_zero, List.set_cons_succ]
     clear hT v0 v1 v2
     have HB51 := Aside0.mk (below_step HB50.out hb51)
     have KA_47_48_49_50_51 := Aside0.mk (blk_below KA_47_48_49_50.out hb51)
     have K1_47_48_49_50_51 := Aside0.mk (blk_below K1_47_48_49_50.out hb51)
     have K2_47_48_49_50_51 := Aside0.mk (blk_below K2_47_48_49_50.out hb51)
     have K9_47_48_49_50_51 := Aside0.mk (blk_below K9_47_48_49_50.out hb51)
     clear hb51
     have hvb : Value.slice Ak nk ck = .slice Ab nb cb := by rw [← HVB.out]; unfold bP; rw [if_pos rfl, if_neg HZ.out]
     injection hvb with h1 h2 h3
     subst h1
     subst h2
     subst h3
     by_cases hk0 : kd = 0
     ·have HK0 := Aside0.mk hk0
      clear hk0
      have hf0 := HF.out
      unfold fillC at hf0
      rw [if_pos HK0.out] at hf0
      subst hf0
      clear HF
      have HFC := Aside0.mk (show fillC kd cm false m0 m1 m2 (.slice Ak nk ck) = [.int .i64 kd, .int .i64 cm, .int .i64 m0, .int .i64 m1, .int .i64 m2, .slice Ak nk ck, .bool false, .int .i64 0, .int .i64 0, .slice none 0 0] by unfold fillC; rw [if_pos HK0.out])
      go_upto_region 16 with fail
      refine Flow.seqT_head (E := fun u v => Below u.heap.size u v) 4 [(some 61, []), (some 62, []), (some 63, []), (some 64, [0, 1, 2]), (none, [3, 3, 0, 1, 2, 3])] (fun iQ vQ wQ => match iQ with | 0 => vQ = (.agg #[.int .i64 kd, .int .i64 cm, .int .i64 0, .int .i64 0, .int .i64 0, .slice none 0 0, .bool false, .int .i64 0, .int .i64 0, .slice none 0 0]) | 1 => vQ = (.agg #[.int .i64 m0, .int .i64 m1, .int .i64 m2]) | 2 => vQ = (.slice Ak nk ck) | 3 => vQ = (.agg #[.int .i64 kd, .int .i64 cm, .int .i64 m0, .int .i64 m1, .int .i64 m2, .slice Ak nk ck, .bool false, .int .i64 0, .int .i64 0, .slice none 0 0]) | _ => True) rfl (by decide) (by kernel_rfl) (Below.refl _ _) (fun _ _ _ h k => h.trans (k.mono h.size)) (fun _ _ _ _ h _ => h) ?_ ?_
      ·refine ⟨?_, ?_, ?_, ?_, trivial⟩
       ·intro a w' hx hu hd K hK; have e9 : a.tmps.getD 9 undef = (.pointer (some ⟨g37, 0, none⟩)) := hu 9 rfl; exact Flow.run1 rfl (ldrow rfl e9 (lies_block (blk_below K9_47_48_49_50_51.out hx)) Tryd.underlying56 rfl size56) (hK _ _ (Below.refl _ _) rfl)
       ·intro a w' hx hu hd K hK; have e10 : a.tmps.getD 10 undef = (.pointer (some ⟨g40, 0, none⟩)) := hu 10 rfl; exact Flow.run1 rfl (ldrow rfl e10 (lies_block (blk_below KA_47_48_49_50_51.out hx)) Tryd.underlying104 rfl size104) (hK _ _ (Below.refl _ _) rfl)
       ·intro a w' hx hu hd K hK; have e12 : a.tmps.getD 12 undef = (.slice Ak nk ck) := hu 12 rfl; exact Flow.run1 rfl (Flow.r_move rfl e12) (hK _ _ (Below.refl _ _) rfl)
       ·intro a w' hx hu hd K hK; have e61 := Flow.got (hd 0 rfl) 61 rfl; have e62 := Flow.got (hd 1 rfl) 62 rfl; have e63 := Flow.got (hd 2 rfl) 63 rfl; refine Flow.want rfl ?_; refine Flow.val_call rfl Tryd.func53 (by kernel_rfl) rfl (by simp only [List.map_toArray, List.map_cons, List.map_nil, Act.eval, e61, e62, e63] <;> rfl) (fill_at HFC.out w') ?_; rintro e w2 ⟨rfl, hb2⟩; exact ⟨_, rfl, hK _ _ hb2 (by rfl)⟩
      intro vs W52 hb52 hT
      have v0 := Flow.eqn (hT 0 (by decide))
      have v1 := Flow.eqn (hT 1 (by decide))
      have v2 := Flow.eqn (hT 2 (by decide))
      have v3 := Flow.eqn (hT 3 (by decide))
      simp only [Flow.putsT, v0, v1, v2, v3, Act.put, List.setIfInBounds_toArray, List.set_cons_zero, List.set_cons_succ, List.drop_succ_cons, List.drop_zero, List.take_succ_cons, List.take_zero]
      clear hT v0 v1 v2 v3
      have HB52 := Aside0.mk (below_step HB51.out hb52)
      have KA_47_48_49_50_51_52 := Aside0.mk (blk_below KA_47_48_49_50_51.out hb52)
      have K1_47_48_49_50_51_52 := Aside0.mk (blk_below K1_47_48_49_50_51.out hb52)
      have K2_47_48_49_50_51_52 := Aside0.mk (blk_below K2_47_48_49_50_51.out hb52)
      have K9_47_48_49_50_51_52 := Aside0.mk (blk_below K9_47_48_49_50_51.out hb52)
      clear hb52
      refine Cells.store_whole rfl rfl 56 _ _ rfl g2 [.int .i64 kd, .int .i64 cm, .int .i64 m0, .int .i64 m1, .int .i64 m2, .slice Ak nk ck, .bool false, .int .i64 0, .int .i64 0, .slice none 0 0] #[.int .i64 0, .int .i64 0, .int .i64 0, .int .i64 0, .int .i64 0, .slice none 0 0, .bool false, .int .i64 0, .int .i64 0, .slice none 0 0] rfl rfl K2_47_48_49_50_51_52.out rfl size56 rfl ?_
      intro W53 hk53 hf53 hb53
      have HB53 := Aside0.mk (HB52.out.trans (hb53 _ Gg2.out))
      have KA_47_48_49_50_51_52_53 := Aside0.mk ((hf53 _ Ng2_g40.out).trans KA_47_48_49_50_51_52.out)
      have K1_47_48_49_50_51_52_53 := Aside0.mk ((hf53 _ Ng2_g1.out).trans K1_47_48_49_50_51_52.out)
      have K9_47_48_49_50_51_52_53 := Aside0.mk ((hf53 _ Ng2_g37.out).trans K9_47_48_49_50_51_52.out)
      have Kg2_53 := Aside0.mk hk53
      clear hk53 hf53 hb53
      go_wp2_with fail
      exact bodyPost_ret (results_cell_row Tryd.results36 _ _ g2 56 _ _ _ rfl Kg2_53.out Tryd.underlying56 rfl size56) rfl ⟨rfl, HB53.out⟩
     ·have HK0 := Aside0.mk hk0
      clear hk0
      by_cases hk1 : kd = 1
      ·have HK1 := Aside0.mk hk1
       clear hk1
       have hf0 := HF.out
       unfold fillC at hf0
       rw [if_neg HK0.out, if_pos HK1.out] at hf0
       subst hf0
       clear HF
       have HFC := Aside0.mk (show fillC kd cm false m0 m1 m2 (.slice Ak nk ck) = [.int .i64 kd, .int .i64 cm, .int .i64 0, .int .i64 0, .int .i64 0, .slice none 0 0, .bool false, .int .i64 0, .int .i64 m0, .slice Ak nk ck] by unfold fillC; rw [if_neg HK0.out, if_pos HK1.out])
       go_upto_region 16 with fail
       refine Flow.seqT_head (E := fun u v => Below u.heap.size u v) 4 [(some 61, []), (some 62, []), (some 63, []), (some 64, [0, 1, 2]), (none, [3, 3, 0, 1, 2, 3])] (fun iQ vQ wQ => match iQ with | 0 => vQ = (.agg #[.int .i64 kd, .int .i64 cm, .int .i64 0, .int .i64 0, .int .i64 0, .slice none 0 0, .bool false, .int .i64 0, .int .i64 0, .slice none 0 0]) | 1 => vQ = (.agg #[.int .i64 m0, .int .i64 m1, .int .i64 m2]) | 2 => vQ = (.slice Ak nk ck) | 3 => vQ = (.agg #[.int .i64 kd, .int .i64 cm, .int .i64 0, .int .i64 0, .int .i64 0, .slice none 0 0, .bool false, .int .i64 0, .int .i64 m0, .slice Ak nk ck]) | _ => True) rfl (by decide) (by kernel_rfl) (Below.refl _ _) (fun _ _ _ h k => h.trans (k.mono h.size)) (fun _ _ _ _ h _ => h) ?_ ?_
       ·refine ⟨?_, ?_, ?_, ?_, trivial⟩
        ·intro a w' hx hu hd K hK; have e9 : a.tmps.getD 9 undef = (.pointer (some ⟨g37, 0, none⟩)) := hu 9 rfl; exact Flow.run1 rfl (ldrow rfl e9 (lies_block (blk_below K9_47_48_49_50_51.out hx)) Tryd.underlying56 rfl size56) (hK _ _ (Below.refl _ _) rfl)
        ·intro a w' hx hu hd K hK; have e10 : a.tmps.getD 10 undef = (.pointer (some ⟨g40, 0, none⟩)) := hu 10 rfl; exact Flow.run1 rfl (ldrow rfl e10 (lies_block (blk_below KA_47_48_49_50_51.out hx)) Tryd.underlying104 rfl size104) (hK _ _ (Below.refl _ _) rfl)
        ·intro a w' hx hu hd K hK; have e12 : a.tmps.getD 12 undef = (.slice Ak nk ck) := hu 12 rfl; exact Flow.run1 rfl (Flow.r_move rfl e12) (hK _ _ (Below.refl _ _) rfl)
        ·intro a w' hx hu hd K hK; have e61 := Flow.got (hd 0 rfl) 61 rfl; have e62 := Flow.got (hd 1 rfl) 62 rfl; have e63 := Flow.got (hd 2 rfl) 63 rfl; refine Flow.want rfl ?_; refine Flow.val_call rfl Tryd.func53 (by kernel_rfl) rfl (by simp only [List.map_toArray, List.map_cons, List.map_nil, Act.eval, e61, e62, e63] <;> rfl) (fill_at HFC.out w') ?_; rintro e w2 ⟨rfl, hb2⟩; exact ⟨_, rfl, hK _ _ hb2 (by rfl)⟩
       intro vs W54 hb54 hT
       have v0 := Flow.eqn (hT 0 (by decide))
       have v1 := Flow.eqn (hT 1 (by decide))
       have v2 := Flow.eqn (hT 2 (by decide))
       have v3 := Flow.eqn (hT 3 (by decide))
       simp only [Flow.putsT, v0, v1, v2, v3, Act.put, List.setIfInBounds_toArray, List.set_cons_zero, List.set_cons_succ, List.drop_succ_cons, List.drop_zero, List.take_succ_cons, List.take_zero]
       clear hT v0 v1 v2 v3
       have HB54 := Aside0.mk (below_step HB51.out hb54)
       have KA_47_48_49_50_51_54 := Aside0.mk (blk_below KA_47_48_49_50_51.out hb54)
       have K1_47_48_49_50_51_54 := Aside0.mk (blk_below K1_47_48_49_50_51.out hb54)
       have K2_47_48_49_50_51_54 := Aside0.mk (blk_below K2_47_48_49_50_51.out hb54)
       have K9_47_48_49_50_51_54 := Aside0.mk (blk_below K9_47_48_49_50_51.out hb54)
       clear hb54
       refine Cells.store_whole rfl rfl 56 _ _ rfl g2 [.int .i64 kd, .int .i64 cm, .int .i64 0, .int .i64 0, .int .i64 0, .slice none 0 0, .bool false, .int .i64 0, .int .i64 m0, .slice Ak nk ck] #[.int .i64 0, .int .i64 0, .int .i64 0, .int .i64 0, .int .i64 0, .slice none 0 0, .bool false, .int .i64 0, .int .i64 0, .slice none 0 0] rfl rfl K2_47_48_49_50_51_54.out rfl size56 rfl ?_
       intro W55 hk55 hf55 hb55
       have HB55 := Aside0.mk (HB54.out.trans (hb55 _ Gg2.out))
       have KA_47_48_49_50_51_54_55 := Aside0.mk ((hf55 _ Ng2_g40.out).trans KA_47_48_49_50_51_54.out)
       have K1_47_48_49_50_51_54_55 := Aside0.mk ((hf55 _ Ng2_g1.out).trans K1_47_48_49_50_51_54.out)
       have K9_47_48_49_50_51_54_55 := Aside0.mk ((hf55 _ Ng2_g37.out).trans K9_47_48_49_50_51_54.out)
       have Kg2_55 := Aside0.mk hk55
       clear hk55 hf55 hb55
       go_wp2_with fail
       exact bodyPost_ret (results_cell_row Tryd.results36 _ _ g2 56 _ _ _ rfl Kg2_55.out Tryd.underlying56 rfl size56) rfl ⟨rfl, HB55.out⟩
      ·have HK1 := Aside0.mk hk1
       clear hk1
       have hf0 := HF.out
       unfold fillC at hf0
       rw [if_neg HK0.out, if_neg HK1.out] at hf0
       subst hf0
       clear HF
       have HFC := Aside0.mk (show fillC kd cm false m0 m1 m2 (.slice Ak nk ck) = [.int .i64 kd, .int .i64 cm, .int .i64 0, .int .i64 0, .int .i64 0, .slice none 0 0, .bool false, .int .i64 m0, .int .i64 m1, .slice Ak nk ck] by unfold fillC; rw [if_neg HK0.out, if_neg HK1.out])
       go_upto_region 16 with fail
       refine Flow.seqT_head (E := fun u v => Below u.heap.size u v) 4 [(some 61, []), (some 62, []), (some 63, []), (some 64, [0, 1, 2]), (none, [3, 3, 0, 1, 2, 3])] (fun iQ vQ wQ => match iQ with | 0 => vQ = (.agg #[.int .i64 kd, .int .i64 cm, .int .i64 0, .int .i64 0, .int .i64 0, .slice none 0 0, .bool false, .int .i64 0, .int .i64 0, .slice none 0 0]) | 1 => vQ = (.agg #[.int .i64 m0, .int .i64 m1, .int .i64 m2]) | 2 => vQ = (.slice Ak nk ck) | 3 => vQ = (.agg #[.int .i64 kd, .int .i64 cm, .int .i64 0, .int .i64 0, .int .i64 0, .slice none 0 0, .bool false, .int .i64 m0, .int .i64 m1, .slice Ak nk ck]) | _ => True) rfl (by decide) (by kernel_rfl) (Below.refl _ _) (fun _ _ _ h k => h.trans (k.mono h.size)) (fun _ _ _ _ h _ => h) ?_ ?_
       ·refine ⟨?_, ?_, ?_, ?_, trivial⟩
        ·intro a w' hx hu hd K hK; have e9 : a.tmps.getD 9 undef = (.pointer (some ⟨g37, 0, none⟩)) := hu 9 rfl; exact Flow.run1 rfl (ldrow rfl e9 (lies_block (blk_below K9_47_48_49_50_51.out hx)) Tryd.underlying56 rfl size56) (hK _ _ (Below.refl _ _) rfl)
        ·intro a w' hx hu hd K hK; have e10 : a.tmps.getD 10 undef = (.pointer (some ⟨g40, 0, none⟩)) := hu 10 rfl; exact Flow.run1 rfl (ldrow rfl e10 (lies_block (blk_below KA_47_48_49_50_51.out hx)) Tryd.underlying104 rfl size104) (hK _ _ (Below.refl _ _) rfl)
        ·intro a w' hx hu hd K hK; have e12 : a.tmps.getD 12 undef = (.slice Ak nk ck) := hu 12 rfl; exact Flow.run1 rfl (Flow.r_move rfl e12) (hK _ _ (Below.refl _ _) rfl)
        ·intro a w' hx hu hd K hK; have e61 := Flow.got (hd 0 rfl) 61 rfl; have e62 := Flow.got (hd 1 rfl) 62 rfl; have e63 := Flow.got (hd 2 rfl) 63 rfl; refine Flow.want rfl ?_; refine Flow.val_call rfl Tryd.func53 (by kernel_rfl) rfl (by simp only [List.map_toArray, List.map_cons, List.map_nil, Act.eval, e61, e62, e63] <;> rfl) (fill_at HFC.out w') ?_; rintro e w2 ⟨rfl, hb2⟩; exact ⟨_, rfl, hK _ _ hb2 (by rfl)⟩
       intro vs W56 hb56 hT
       have v0 := Flow.eqn (hT 0 (by decide))
       have v1 := Flow.eqn (hT 1 (by decide))
       have v2 := Flow.eqn (hT 2 (by decide))
       have v3 := Flow.eqn (hT 3 (by decide))
       simp only [Flow.putsT, v0, v1, v2, v3, Act.put, List.setIfInBounds_toArray, List.set_cons_zero, List.set_cons_succ, List.drop_succ_cons, List.drop_zero, List.take_succ_cons, List.take_zero]
       clear hT v0 v1 v2 v3
       have HB56 := Aside0.mk (below_step HB51.out hb56)
       have KA_47_48_49_50_51_56 := Aside0.mk (blk_below KA_47_48_49_50_51.out hb56)
       have K1_47_48_49_50_51_56 := Aside0.mk (blk_below K1_47_48_49_50_51.out hb56)
       have K2_47_48_49_50_51_56 := Aside0.mk (blk_below K2_47_48_49_50_51.out hb56)
       have K9_47_48_49_50_51_56 := Aside0.mk (blk_below K9_47_48_49_50_51.out hb56)
       clear hb56
       refine Cells.store_whole rfl rfl 56 _ _ rfl g2 [.int .i64 kd, .int .i64 cm, .int .i64 0, .int .i64 0, .int .i64 0, .slice none 0 0, .bool false, .int .i64 m0, .int .i64 m1, .slice Ak nk ck] #[.int .i64 0, .int .i64 0, .int .i64 0, .int .i64 0, .int .i64 0, .slice none 0 0, .bool false, .int .i64 0, .int .i64 0, .slice none 0 0] rfl rfl K2_47_48_49_50_51_56.out rfl size56 rfl ?_
       intro W57 hk57 hf57 hb57
       have HB57 := Aside0.mk (HB56.out.trans (hb57 _ Gg2.out))
       have KA_47_48_49_50_51_56_57 := Aside0.mk ((hf57 _ Ng2_g40.out).trans KA_47_48_49_50_51_56.out)
       have K1_47_48_49_50_51_56_57 := Aside0.mk ((hf57 _ Ng2_g1.out).trans K1_47_48_49_50_51_56.out)
       have K9_47_48_49_50_51_56_57 := Aside0.mk ((hf57 _ Ng2_g37.out).trans K9_47_48_49_50_51_56.out)
       have Kg2_57 := Aside0.mk hk57
       clear hk57 hf57 hb57
       go_wp2_with fail
       exact bodyPost_ret (results_cell_row Tryd.results36 _ _ g2 56 _ _ _ rfl Kg2_57.out Tryd.underlying56 rfl size56) rfl ⟨rfl, HB57.out⟩
    | false =>
     go_upto_region 12 with fail
     refine Flow.seqT (E := fun u v => Below u.heap.size u v) [(some 46, []), (some 47, [0]), (some 48, [1]), (some 49, [2, 1]), (some 50, [1, 3])] (fun iQ vQ wQ => match iQ with | 0 => vQ = (.bool false) | 1 => vQ = (.bool false) | 2 => vQ = undef | 3 => vQ = undef | 4 => vQ = (.bool false) | _ => True) rfl (by kernel_rfl) (Below.refl _ _) (fun _ _ _ h k => h.trans (k.mono h.size)) (fun _ _ _ _ h _ => h) ?_ ?_
     ·refine ⟨?_, ?_, ?_, ?_, ?_, trivial⟩
      ·intro a w' hx hu hd K hK; have e6 : a.tmps.getD 6 undef = (.bool false) := hu 6 rfl; exact Flow.run1 rfl (Flow.r_move rfl e6) (hK _ _ (Below.refl _ _) rfl)
      ·intro a w' hx hu hd K hK; have e46 := Flow.got (hd 0 rfl) 46 rfl; exact Flow.run1 rfl (Flow.r_move rfl e46) (hK _ _ (Below.refl _ _) rfl)
      ·intro a w' hx hu hd K hK; have e47 := Flow.got (hd 1 rfl) 47 rfl; exact Flow.spare (Flow.spare_of (k := 47) rfl e47 rfl) (hK _ _ (Below.refl _ _) rfl)
      ·intro a w' hx hu hd K hK; have e47 := Flow.got (hd 1 rfl) 47 rfl; exact Flow.spare (Flow.spare_of (k := 47) rfl e47 rfl) (hK _ _ (Below.refl _ _) rfl)
      ·intro a w' hx hu hd K hK; have e47 := Flow.got (hd 1 rfl) 47 rfl; have e49 := Flow.got (hd 3 rfl) 49 rfl; exact Flow.run1 rfl (Flow.r_pick rfl e47 rfl) (hK _ _ (Below.refl _ _) rfl)
     intro vs W58 hb58 hT
     have v0 := Flow.eqn (hT 0 (by decide))
     have v1 := Flow.eqn (hT 1 (by decide))
     have v2 := Flow.eqn (hT 2 (by decide))
     have v3 := Flow.eqn (hT 3 (by decide))
     have v4 := Flow.eqn (hT 4 (by decide))
     simp only [Flow.putsT, v0, v1, v2, v3, v4, Act.put, List.setIfInBounds_toArray, List.set_cons_zero, List.set_cons_succ]
     clear hT v0 v1 v2 v3 v4
     have HB58 := Aside0.mk (below_step HB48.out hb58)
     have KA_47_48_58 := Aside0.mk (blk_below KA_47_48.out hb58)
     have K1_47_48_58 := Aside0.mk (blk_below K1_47_48.out hb58)
     have K2_47_48_58 := Aside0.mk (blk_below K2_47_48.out hb58)
     have K9_47_48_58 := Aside0.mk (blk_below K9_47_48.out hb58)
     clear hb58
     go_upto_region 14 with fail
     refine Flow.seqT (E := fun u v => Below u.heap.size u v) [(some 54, []), (some 55, [0]), (some 56, [1]), (some 57, [2, 1]), (some 58, [1, 3])] (fun iQ vQ wQ => match iQ with | 0 => vQ = (.bool false) | 1 => vQ = (.bool false) | 2 => vQ = undef | 3 => vQ = undef | 4 => vQ = (.bool false) | _ => True) rfl (by kernel_rfl) (Below.refl _ _) (fun _ _ _ h k => h.trans (k.mono h.size)) (fun _ _ _ _ h _ => h) ?_ ?_
     ·refine ⟨?_, ?_, ?_, ?_, ?_, trivial⟩
      ·intro a w' hx hu hd K hK; have e6 : a.tmps.getD 6 undef = (.bool false) := hu 6 rfl; exact Flow.run1 rfl (Flow.r_move rfl e6) (hK _ _ (Below.refl _ _) rfl)
      ·intro a w' hx hu hd K hK; have e54 := Flow.got (hd 0 rfl) 54 rfl; exact Flow.run1 rfl (Flow.r_move rfl e54) (hK _ _ (Below.refl _ _) rfl)
      ·intro a w' hx hu hd K hK; have e55 := Flow.got (hd 1 rfl) 55 rfl; exact Flow.spare (Flow.spare_of (k := 55) rfl e55 rfl) (hK _ _ (Below.refl _ _) rfl)
      ·intro a w' hx hu hd K hK; have e55 := Flow.got (hd 1 rfl) 55 rfl; exact Flow.spare (Flow.spare_of (k := 55) rfl e55 rfl) (hK _ _ (Below.refl _ _) rfl)
      ·intro a w' hx hu hd K hK; have e55 := Flow.got (hd 1 rfl) 55 rfl; have e57 := Flow.got (hd 3 rfl) 57 rfl; exact Flow.run1 rfl (Flow.r_pick rfl e55 rfl) (hK _ _ (Below.refl _ _) rfl)
     intro vs W59 hb59 hT
     have v0 := Flow.eqn (hT 0 (by decide))
     have v1 := Flow.eqn (hT 1 (by decide))
     have v2 := Flow.eqn (hT 2 (by decide))
     have v3 := Flow.eqn (hT 3 (by decide))
     have v4 := Flow.eqn (hT 4 (by decide))
     simp only [Flow.putsT, v0, v1, v2, v3, v4, Act.put, List.setIfInBounds_toArray, List.set_cons_zero, List.set_cons_succ]
     clear hT v0 v1 v2 v3 v4
     have HB59 := Aside0.mk (below_step HB58.out hb59)
     have KA_47_48_58_59 := Aside0.mk (blk_below KA_47_48_58.out hb59)
     have K1_47_48_58_59 := Aside0.mk (blk_below K1_47_48_58.out hb59)
     have K2_47_48_58_59 := Aside0.mk (blk_below K2_47_48_58.out hb59)
     have K9_47_48_58_59 := Aside0.mk (blk_below K9_47_48_58.out hb59)
     clear hb59
     have hvb : Value.slice none 0 0 = .slice Ab nb cb := by rw [← HVB.out]; unfold bP; rw [if_neg (by decide)]
     injection hvb with h1 h2 h3
     subst h1
     subst h2
     subst h3
     by_cases hk0 : kd = 0
     ·have HK0 := Aside0.mk hk0
      clear hk0
      have hf0 := HF.out
      unfold fillC at hf0
      rw [if_pos HK0.out] at hf0
      subst hf0
      clear HF
      have HFC := Aside0.mk (show fillC kd cm false m0 m1 m2 (.slice none 0 0) = [.int .i64 kd, .int .i64 cm, .int .i64 m0, .int .i64 m1, .int .i64 m2, .slice none 0 0, .bool false, .int .i64 0, .int .i64 0, .slice none 0 0] by unfold fillC; rw [if_pos HK0.out])
      go_upto_region 16 with fail
      refine Flow.seqT_head (E := fun u v => Below u.heap.size u v) 4 [(some 61, []), (some 62, []), (some 63, []), (some 64, [0, 1, 2]), (none, [3, 3, 0, 1, 2, 3])] (fun iQ vQ wQ => match iQ with | 0 => vQ = (.agg #[.int .i64 kd, .int .i64 cm, .int .i64 0, .int .i64 0, .int .i64 0, .slice none 0 0, .bool false, .int .i64 0, .int .i64 0, .slice none 0 0]) | 1 => vQ = (.agg #[.int .i64 m0, .int .i64 m1, .int .i64 m2]) | 2 => vQ = (.slice none 0 0) | 3 => vQ = (.agg #[.int .i64 kd, .int .i64 cm, .int .i64 m0, .int .i64 m1, .int .i64 m2, .slice none 0 0, .bool false, .int .i64 0, .int .i64 0, .slice none 0 0]) | _ => True) rfl (by decide) (by kernel_rfl) (Below.refl _ _) (fun _ _ _ h k => h.trans (k.mono h.size)) (fun _ _ _ _ h _ => h) ?_ ?_
      ·refine ⟨?_, ?_, ?_, ?_, trivial⟩
       ·intro a w' hx hu hd K hK; have e9 : a.tmps.getD 9 undef = (.pointer (some ⟨g37, 0, none⟩)) := hu 9 rfl; exact Flow.run1 rfl (ldrow rfl e9 (lies_block (blk_below K9_47_48_58_59.out hx)) Tryd.underlying56 rfl size56) (hK _ _ (Below.refl _ _) rfl)
       ·intro a w' hx hu hd K hK; have e10 : a.tmps.getD 10 undef = (.pointer (some ⟨g40, 0, none⟩)) := hu 10 rfl; exact Flow.run1 rfl (ldrow rfl e10 (lies_block (blk_below KA_47_48_58_59.out hx)) Tryd.underlying104 rfl size104) (hK _ _ (Below.refl _ _) rfl)
       ·intro a w' hx hu hd K hK; have e12 : a.tmps.getD 12 undef = (.slice none 0 0) := hu 12 rfl; exact Flow.run1 rfl (Flow.r_move rfl e12) (hK _ _ (Below.refl _ _) rfl)
       ·intro a w' hx hu hd K hK; have e61 := Flow.got (hd 0 rfl) 61 rfl; have e62 := Flow.got (hd 1 rfl) 62 rfl; have e63 := Flow.got (hd 2 rfl) 63 rfl; refine Flow.want rfl ?_; refine Flow.val_call rfl Tryd.func53 (by kernel_rfl) rfl (by simp only [List.map_toArray, List.map_cons, List.map_nil, Act.eval, e61, e62, e63] <;> rfl) (fill_at HFC.out w') ?_; rintro e w2 ⟨rfl, hb2⟩; exact ⟨_, rfl, hK _ _ hb2 (by rfl)⟩
      intro vs W60 hb60 hT
      have v0 := Flow.eqn (hT 0 (by decide))
      have v1 := Flow.eqn (hT 1 (by decide))
      have v2 := Flow.eqn (hT 2 (by decide))
      have v3 := Flow.eqn (hT 3 (by decide))
      simp only [Flow.putsT, v0, v1, v2, v3, Act.put, List.setIfInBounds_toArray, List.set_cons_zero, List.set_cons_succ, List.drop_succ_cons, List.drop_zero, List.take_succ_cons, List.take_zero]
      clear hT v0 v1 v2 v3
      have HB60 := Aside0.mk (below_step HB59.out hb60)
      have KA_47_48_58_59_60 := Aside0.mk (blk_below KA_47_48_58_59.out hb60)
      have K1_47_48_58_59_60 := Aside0.mk (blk_below K1_47_48_58_59.out hb60)
      have K2_47_48_58_59_60 := Aside0.mk (blk_below K2_47_48_58_59.out hb60)
      have K9_47_48_58_59_60 := Aside0.mk (blk_below K9_47_48_58_59.out hb60)
      clear hb60
      refine Cells.store_whole rfl rfl 56 _ _ rfl g2 [.int .i64 kd, .int .i64 cm, .int .i64 m0, .int .i64 m1, .int .i64 m2, .slice none 0 0, .bool false, .int .i64 0, .int .i64 0, .slice none 0 0] #[.int .i64 0, .int .i64 0, .int .i64 0, .int .i64 0, .int .i64 0, .slice none 0 0, .bool false, .int .i64 0, .int .i64 0, .slice none 0 0] rfl rfl K2_47_48_58_59_60.out rfl size56 rfl ?_
      intro W61 hk61 hf61 hb61
      have HB61 := Aside0.mk (HB60.out.trans (hb61 _ Gg2.out))
      have KA_47_48_58_59_60_61 := Aside0.mk ((hf61 _ Ng2_g40.out).trans KA_47_48_58_59_60.out)
      have K1_47_48_58_59_60_61 := Aside0.mk ((hf61 _ Ng2_g1.out).trans K1_47_48_58_59_60.out)
      have K9_47_48_58_59_60_61 := Aside0.mk ((hf61 _ Ng2_g37.out).trans K9_47_48_58_59_60.out)
      have Kg2_61 := Aside0.mk hk61
      clear hk61 hf61 hb61
      go_wp2_with fail
      exact bodyPost_ret (results_cell_row Tryd.results36 _ _ g2 56 _ _ _ rfl Kg2_61.out Tryd.underlying56 rfl size56) rfl ⟨rfl, HB61.out⟩
     ·have HK0 := Aside0.mk hk0
      clear hk0
      by_cases hk1 : kd = 1
      ·have HK1 := Aside0.mk hk1
       clear hk1
       have hf0 := HF.out
       unfold fillC at hf0
       rw [if_neg HK0.out, if_pos HK1.out] at hf0
       subst hf0
       clear HF
       have HFC := Aside0.mk (show fillC kd cm false m0 m1 m2 (.slice none 0 0) = [.int .i64 kd, .int .i64 cm, .int .i64 0, .int .i64 0, .int .i64 0, .slice none 0 0, .bool false, .int .i64 0, .int .i64 m0, .slice none 0 0] by unfold fillC; rw [if_neg HK0.out, if_pos HK1.out])
       go_upto_region 16 with fail
       refine Flow.seqT_head (E := fun u v => Below u.heap.size u v) 4 [(some 61, []), (some 62, []), (some 63, []), (some 64, [0, 1, 2]), (none, [3, 3, 0, 1, 2, 3])] (fun iQ vQ wQ => match iQ with | 0 => vQ = (.agg #[.int .i64 kd, .int .i64 cm, .int .i64 0, .int .i64 0, .int .i64 0, .slice none 0 0, .bool false, .int .i64 0, .int .i64 0, .slice none 0 0]) | 1 => vQ = (.agg #[.int .i64 m0, .int .i64 m1, .int .i64 m2]) | 2 => vQ = (.slice none 0 0) | 3 => vQ = (.agg #[.int .i64 kd, .int .i64 cm, .int .i64 0, .int .i64 0, .int .i64 0, .slice none 0 0, .bool false, .int .i64 0, .int .i64 m0, .slice none 0 0]) | _ => True) rfl (by decide) (by kernel_rfl) (Below.refl _ _) (fun _ _ _ h k => h.trans (k.mono h.size)) (fun _ _ _ _ h _ => h) ?_ ?_
       ·refine ⟨?_, ?_, ?_, ?_, trivial⟩
        ·intro a w' hx hu hd K hK; have e9 : a.tmps.getD 9 undef = (.pointer (some ⟨g37, 0, none⟩)) := hu 9 rfl; exact Flow.run1 rfl (ldrow rfl e9 (lies_block (blk_below K9_47_48_58_59.out hx)) Tryd.underlying56 rfl size56) (hK _ _ (Below.refl _ _) rfl)
        ·intro a w' hx hu hd K hK; have e10 : a.tmps.getD 10 undef = (.pointer (some ⟨g40, 0, none⟩)) := hu 10 rfl; exact Flow.run1 rfl (ldrow rfl e10 (lies_block (blk_below KA_47_48_58_59.out hx)) Tryd.underlying104 rfl size104) (hK _ _ (Below.refl _ _) rfl)
        ·intro a w' hx hu hd K hK; have e12 : a.tmps.getD 12 undef = (.slice none 0 0) := hu 12 rfl; exact Flow.run1 rfl (Flow.r_move rfl e12) (hK _ _ (Below.refl _ _) rfl)
        ·intro a w' hx hu hd K hK; have e61 := Flow.got (hd 0 rfl) 61 rfl; have e62 := Flow.got (hd 1 rfl) 62 rfl; have e63 := Flow.got (hd 2 rfl) 63 rfl; refine Flow.want rfl ?_; refine Flow.val_call rfl Tryd.func53 (by kernel_rfl) rfl (by simp only [List.map_toArray, List.map_cons, List.map_nil, Act.eval, e61, e62, e63] <;> rfl) (fill_at HFC.out w') ?_; rintro e w2 ⟨rfl, hb2⟩; exact ⟨_, rfl, hK _ _ hb2 (by rfl)⟩
       intro vs W62 hb62 hT
       have v0 := Flow.eqn (hT 0 (by decide))
       have v1 := Flow.eqn (hT 1 (by decide))
       have v2 := Flow.eqn (hT 2 (by decide))
       have v3 := Flow.eqn (hT 3 (by decide))
       simp only [Flow.putsT, v0, v1, v2, v3, Act.put, List.setIfInBounds_toArray, List.set_cons_zero, List.set_cons_succ, List.drop_succ_cons, List.drop_zero, List.take_succ_cons, List.take_zero]
       clear hT v0 v1 v2 v3
       have HB62 := Aside0.mk (below_step HB59.out hb62)
       have KA_47_48_58_59_62 := Aside0.mk (blk_below KA_47_48_58_59.out hb62)
       have K1_47_48_58_59_62 := Aside0.mk (blk_below K1_47_48_58_59.out hb62)
       have K2_47_48_58_59_62 := Aside0.mk (blk_below K2_47_48_58_59.out hb62)
       have K9_47_48_58_59_62 := Aside0.mk (blk_below K9_47_48_58_59.out hb62)
       clear hb62
       refine Cells.store_whole rfl rfl 56 _ _ rfl g2 [.int .i64 kd, .int .i64 cm, .int .i64 0, .int .i64 0, .int .i64 0, .slice none 0 0, .bool false, .int .i64 0, .int .i64 m0, .slice none 0 0] #[.int .i64 0, .int .i64 0, .int .i64 0, .int .i64 0, .int .i64 0, .slice none 0 0, .bool false, .int .i64 0, .int .i64 0, .slice none 0 0] rfl rfl K2_47_48_58_59_62.out rfl size56 rfl ?_
       intro W63 hk63 hf63 hb63
       have HB63 := Aside0.mk (HB62.out.trans (hb63 _ Gg2.out))
       have KA_47_48_58_59_62_63 := Aside0.mk ((hf63 _ Ng2_g40.out).trans KA_47_48_58_59_62.out)
       have K1_47_48_58_59_62_63 := Aside0.mk ((hf63 _ Ng2_g1.out).trans K1_47_48_58_59_62.out)
       have K9_47_48_58_59_62_63 := Aside0.mk ((hf63 _ Ng2_g37.out).trans K9_47_48_58_59_62.out)
       have Kg2_63 := Aside0.mk hk63
       clear hk63 hf63 hb63
       go_wp2_with fail
       exact bodyPost_ret (results_cell_row Tryd.results36 _ _ g2 56 _ _ _ rfl Kg2_63.out Tryd.underlying56 rfl size56) rfl ⟨rfl, HB63.out⟩
      ·have HK1 := Aside0.mk hk1
       clear hk1
       have hf0 := HF.out
       unfold fillC at hf0
       rw [if_neg HK0.out, if_neg HK1.out] at hf0
       subst hf0
       clear HF
       have HFC := Aside0.mk (show fillC kd cm false m0 m1 m2 (.slice none 0 0) = [.int .i64 kd, .int .i64 cm, .int .i64 0, .int .i64 0, .int .i64 0, .slice none 0 0, .bool false, .int .i64 m0, .int .i64 m1, .slice none 0 0] by unfold fillC; rw [if_neg HK0.out, if_neg HK1.out])
       go_upto_region 16 with fail
       refine Flow.seqT_head (E := fun u v => Below u.heap.size u v) 4 [(some 61, []), (some 62, []), (some 63, []), (some 64, [0, 1, 2]), (none, [3, 3, 0, 1, 2, 3])] (fun iQ vQ wQ => match iQ with | 0 => vQ = (.agg #[.int .i64 kd, .int .i64 cm, .int .i64 0, .int .i64 0, .int .i64 0, .slice none 0 0, .bool false, .int .i64 0, .int .i64 0, .slice none 0 0]) | 1 => vQ = (.agg #[.int .i64 m0, .int .i64 m1, .int .i64 m2]) | 2 => vQ = (.slice none 0 0) | 3 => vQ = (.agg #[.int .i64 kd, .int .i64 cm, .int .i64 0, .int .i64 0, .int .i64 0, .slice none 0 0, .bool false, .int .i64 m0, .int .i64 m1, .slice none 0 0]) | _ => True) rfl (by decide) (by kernel_rfl) (Below.refl _ _) (fun _ _ _ h k => h.trans (k.mono h.size)) (fun _ _ _ _ h _ => h) ?_ ?_
       ·refine ⟨?_, ?_, ?_, ?_, trivial⟩
        ·intro a w' hx hu hd K hK; have e9 : a.tmps.getD 9 undef = (.pointer (some ⟨g37, 0, none⟩)) := hu 9 rfl; exact Flow.run1 rfl (ldrow rfl e9 (lies_block (blk_below K9_47_48_58_59.out hx)) Tryd.underlying56 rfl size56) (hK _ _ (Below.refl _ _) rfl)
        ·intro a w' hx hu hd K hK; have e10 : a.tmps.getD 10 undef = (.pointer (some ⟨g40, 0, none⟩)) := hu 10 rfl; exact Flow.run1 rfl (ldrow rfl e10 (lies_block (blk_below KA_47_48_58_59.out hx)) Tryd.underlying104 rfl size104) (hK _ _ (Below.refl _ _) rfl)
        ·intro a w' hx hu hd K hK; have e12 : a.tmps.getD 12 undef = (.slice none 0 0) := hu 12 rfl; exact Flow.run1 rfl (Flow.r_move rfl e12) (hK _ _ (Below.refl _ _) rfl)
        ·intro a w' hx hu hd K hK; have e61 := Flow.got (hd 0 rfl) 61 rfl; have e62 := Flow.got (hd 1 rfl) 62 rfl; have e63 := Flow.got (hd 2 rfl) 63 rfl; refine Flow.want rfl ?_; refine Flow.val_call rfl Tryd.func53 (by kernel_rfl) rfl (by simp only [List.map_toArray, List.map_cons, List.map_nil, Act.eval, e61, e62, e63] <;> rfl) (fill_at HFC.out w') ?_; rintro e w2 ⟨rfl, hb2⟩; exact ⟨_, rfl, hK _ _ hb2 (by rfl)⟩
       intro vs W64 hb64 hT
       have v0 := Flow.eqn (hT 0 (by decide))
       have v1 := Flow.eqn (hT 1 (by decide))
       have v2 := Flow.eqn (hT 2 (by decide))
       have v3 := Flow.eqn (hT 3 (by decide))
       simp only [Flow.putsT, v0, v1, v2, v3, Act.put, List.setIfInBounds_toArray, List.set_cons_zero, List.set_cons_succ, List.drop_succ_cons, List.drop_zero, List.take_succ_cons, List.take_zero]
       clear hT v0 v1 v2 v3
       have HB64 := Aside0.mk (below_step HB59.out hb64)
       have KA_47_48_58_59_64 := Aside0.mk (blk_below KA_47_48_58_59.out hb64)
       have K1_47_48_58_59_64 := Aside0.mk (blk_below K1_47_48_58_59.out hb64)
       have K2_47_48_58_59_64 := Aside0.mk (blk_below K2_47_48_58_59.out hb64)
       have K9_47_48_58_59_64 := Aside0.mk (blk_below K9_47_48_58_59.out hb64)
       clear hb64
       refine Cells.store_whole rfl rfl 56 _ _ rfl g2 [.int .i64 kd, .int .i64 cm, .int .i64 0, .int .i64 0, .int .i64 0, .slice none 0 0, .bool false, .int .i64 m0, .int .i64 m1, .slice none 0 0] #[.int .i64 0, .int .i64 0, .int .i64 0, .int .i64 0, .int .i64 0, .slice none 0 0, .bool false, .int .i64 0, .int .i64 0, .slice none 0 0] rfl rfl K2_47_48_58_59_64.out rfl size56 rfl ?_
       intro W65 hk65 hf65 hb65
       have HB65 := Aside0.mk (HB64.out.trans (hb65 _ Gg2.out))
       have KA_47_48_58_59_64_65 := Aside0.mk ((hf65 _ Ng2_g40.out).trans KA_47_48_58_59_64.out)
       have K1_47_48_58_59_64_65 := Aside0.mk ((hf65 _ Ng2_g1.out).trans K1_47_48_58_59_64.out)
       have K9_47_48_58_59_64_65 := Aside0.mk ((hf65 _ Ng2_g37.out).trans K9_47_48_58_59_64.out)
       have Kg2_65 := Aside0.mk hk65
       clear hk65 hf65 hb65
       go_wp2_with fail
       exact bodyPost_ret (results_cell_row Tryd.results36 _ _ g2 56 _ _ _ rfl Kg2_65.out Tryd.underlying56 rfl size56) rfl ⟨rfl, HB65.out⟩
set_option maxHeartbeats 4000000 in
set_option maxRecDepth 100000 in
theorem rplain_none (x : A10) (Ad Ak : Option Addr) (nd cd nk ck : Nat) (hidx : idxI x = -1) (w : World) : Calls Tryd.prog 36 #[.agg #[.int .i64 x.kind, .int .i64 x.cmd, .int .i64 x.zone, .int .i64 x.at_, .int .i64 x.n, .slice Ad nd cd, .bool x.fua, .int .i64 x.m, .int .i64 x.k, .slice Ak nk ck]] w fun e w' => e = .returned (.agg #[.int .i64 0, .int .i64 0, .int .i64 0, .int .i64 0, .int .i64 0, .slice none 0 0, .bool false, .int .i64 0, .int .i64 0, .slice none 0 0]) ∧ Below w.heap.size w w' := by
 have HIX := Aside0.mk hidx
 clear hidx
 go_enter Tryd.func36, Tryd.ntmps36
 go_upto_region 0 with fail
 refine wp_region_lit ?_
 refine ebox (v := (.agg #[.int .i64 x.kind, .int .i64 x.cmd, .int .i64 x.zone, .int .i64 x.at_, .int .i64 x.n, .slice Ad nd cd, .bool x.fua, .int .i64 x.m, .int .i64 x.k, .slice Ak nk ck])) rfl rfl rfl ?_
 intro g1 hg1 W1 hk1 hb1
 have Kg1 := Aside0.mk hk1
 have HB1 := Aside0.mk (hb1)
 clear hb1
 have Gg1 := Aside0.mk (show w.heap.size ≤ g1 by rw [hg1]; exact Nat.le_refl _)
 clear hg1 hk1
 simp only [Act.put, List.setIfInBounds_toArray, List.set_cons_zero, List.set_cons_succ]
 refine ealloc rfl rfl zero56_is ?_
 intro g2 hg2 W2 hk2 hb2
 have Kg2 := Aside0.mk hk2
 have Ng2_g1 := Aside0.mk (show g1 ≠ g2 by have := (Array.getElem?_eq_some_iff.1 Kg1.out).1; omega)
 have Ng1_g2 := Aside0.mk (Ne.symm Ng2_g1.out)
 have HB2 := Aside0.mk (below_step HB1.out hb2)
 have Kg1_2 := Aside0.mk (blk_below Kg1.out hb2)
 clear hb2
 have Gg2 := Aside0.mk (show w.heap.size ≤ g2 by rw [hg2]; exact HB1.out.size)
 clear hg2 hk2
 simp only [Act.put, List.setIfInBounds_toArray, List.set_cons_zero, List.set_cons_succ]
 go_upto_region 1 with fail
 refine Flow.seqT (E := fun u v => Below u.heap.size u v) [(some 13, []), (some 14, [0]), (some 3, [1, 1, 0, 1])] (fun iQ vQ wQ => match iQ with | 0 => vQ = (.agg #[.int .i64 x.kind, .int .i64 x.cmd, .int .i64 x.zone, .int .i64 x.at_, .int .i64 x.n, .slice Ad nd cd, .bool x.fua, .int .i64 x.m, .int .i64 x.k, .slice Ak nk ck]) | 1 => vQ = (.int .i64 (-1)) | 2 => vQ = (.int .i64 (-1)) | _ => True) rfl (by kernel_rfl) (Below.refl _ _) (fun _ _ _ h k => h.trans (k.mono h.size)) (fun _ _ _ _ h _ => h) ?_ ?_
 ·refine ⟨?_, ?_, ?_, trivial⟩
  ·intro a w' hx hu hd K hK; have e1 : a.tmps.getD 1 undef = (.pointer (some ⟨g1, 0, none⟩)) := hu 1 rfl; exact Flow.run1 rfl (ldrow rfl e1 (lies_block (blk_below Kg1_2.out hx)) Tryd.underlying56 rfl size56) (hK _ _ (Below.refl _ _) rfl)
  ·intro a w' hx hu hd K hK; have e13 := Flow.got (hd 0 rfl) 13 rfl; refine Flow.want rfl ?_; refine Flow.val_call rfl Tryd.func58 (by kernel_rfl) rfl (by simp only [List.map_toArray, List.map_cons, List.map_nil, Act.eval, e13] <;> rfl) (rindex_c x Ad Ak nd cd nk ck w') ?_; rintro e w2 ⟨rfl, hb2⟩; rw [HIX.out]; exact ⟨_, rfl, hK _ _ hb2 rfl⟩
  ·intro a w' hx hu hd K hK; have e14 := Flow.got (hd 1 rfl) 14 rfl; exact Flow.run1 rfl (Flow.r_assign rfl e14) (hK _ _ (Below.refl _ _) rfl)
 intro vs W3 hb3 hT
 have v0 := Flow.eqn (hT 0 (by decide))
 have v1 := Flow.eqn (hT 1 (by decide))
 have v2 := Flow.eqn (hT 2 (by decide))
 simp only [Flow.putsT, v0, v1, v2, Act.put, List.setIfInBounds_toArray, List.set_cons_zero, List.set_cons_succ]
 clear hT v0 v1 v2
 have HB3 := Aside0.mk (below_step HB2.out hb3)
 have Kg1_2_3 := Aside0.mk (blk_below Kg1_2.out hb3)
 have Kg2_3 := Aside0.mk (blk_below Kg2.out hb3)
 clear hb3
 go_upto_region 2 with fail
 refine Flow.seqT (E := fun u v => Below u.heap.size u v) [(some 15, []), (some 16, [0])] (fun iQ vQ wQ => match iQ with | 0 => vQ = (.int .i64 (-1)) | 1 => vQ = (.bool true) | _ => True) rfl (by kernel_rfl) (Below.refl _ _) (fun _ _ _ h k => h.trans (k.mono h.size)) (fun _ _ _ _ h _ => h) ?_ ?_
 ·refine ⟨?_, ?_, trivial⟩
  ·intro a w' hx hu hd K hK; have e3 : a.tmps.getD 3 undef = (.int .i64 (-1)) := hu 3 rfl; exact Flow.run1 rfl (Flow.r_move rfl e3) (hK _ _ (Below.refl _ _) rfl)
  ·intro a w' hx hu hd K hK; have e15 := Flow.got (hd 0 rfl) 15 rfl; exact Flow.run1 rfl (yes (lss rfl e15 rfl) (decide_eq_true (by decide))) (hK _ _ (Below.refl _ _) rfl)
 intro vs W4 hb4 hT
 have v0 := Flow.eqn (hT 0 (by decide))
 have v1 := Flow.eqn (hT 1 (by decide))
 simp only [Flow.putsT, v0, v1, Act.put, List.setIfInBounds_toArray, List.set_cons_zero, List.set_cons_succ]
 clear hT v0 v1
 have HB4 := Aside0.mk (below_step HB3.out hb4)
 have Kg1_2_3_4 := Aside0.mk (blk_below Kg1_2_3.out hb4)
 have Kg2_3_4 := Aside0.mk (blk_below Kg2_3.out hb4)
 clear hb4
 go_upto_region 3 with fail
 refine Flow.seqT_head (E := fun u v => Below u.heap.size u v) 1 [(some 17, []), (none, [0, 0])] (fun iQ vQ wQ => match iQ with | 0 => vQ = (.agg #[.int .i64 0, .int .i64 0, .int .i64 0, .int .i64 0, .int .i64 0, .slice none 0 0, .bool false, .int .i64 0, .int .i64 0, .slice none 0 0]) | _ => True) rfl (by decide) (by kernel_rfl) (Below.refl _ _) (fun _ _ _ h k => h.trans (k.mono h.size)) (fun _ _ _ _ h _ => h) ?_ ?_
 ·refine ⟨?_, trivial⟩
  ·intro a w' hx hu hd K hK; exact Flow.run1 rfl (bldz56 rfl) (hK _ _ (Below.refl _ _) rfl)
 intro vs W5 hb5 hT
 have v0 := Flow.eqn (hT 0 (by decide))
 simp only [Flow.putsT, v0, Act.put, List.setIfInBounds_toArray, List.set_cons_zero, List.set_cons_succ, List.drop_succ_cons, List.drop_zero, List.take_succ_cons, List.take_zero]
 clear hT v0
 have HB5 := Aside0.mk (below_step HB4.out hb5)
 have Kg1_2_3_4_5 := Aside0.mk (blk_below Kg1_2_3_4.out hb5)
 have Kg2_3_4_5 := Aside0.mk (blk_below Kg2_3_4.out hb5)
 clear hb5
 refine Cells.store_whole rfl rfl 56 _ _ rfl g2 [.int .i64 0, .int .i64 0, .int .i64 0, .int .i64 0, .int .i64 0, .slice none 0 0, .bool false, .int .i64 0, .int .i64 0, .slice none 0 0] #[.int .i64 0, .int .i64 0, .int .i64 0, .int .i64 0, .int .i64 0, .slice none 0 0, .bool false, .int .i64 0, .int .i64 0, .slice none 0 0] rfl rfl Kg2_3_4_5.out rfl size56 rfl ?_
 intro W6 hk6 hf6 hb6
 have HB6 := Aside0.mk (HB5.out.trans (hb6 _ Gg2.out))
 have Kg1_2_3_4_5_6 := Aside0.mk ((hf6 _ Ng2_g1.out).trans Kg1_2_3_4_5.out)
 have Kg2_6 := Aside0.mk hk6
 clear hk6 hf6 hb6
 go_wp2_with fail
 exact bodyPost_ret (results_cell_row Tryd.results36 _ _ g2 56 _ _ _ rfl Kg2_6.out Tryd.underlying56 rfl size56) rfl ⟨rfl, HB6.out⟩
end Go.Proofs.YtlhmpmmblnbmbaaDoor.Con
namespace Go.Proofs
open Go.Shelf
def Tryd.lays156_ren : Go.Shelf.Ren := ⟨fun | 156 => 57 | 165 => 76 | 166 => 39 | 169 => 40 | 240 => 60 | 241 => 83 | 276 => 77 | 277 => 93 | n => n, fun | 31 => 79 | 9 => 9 | 3 => 3 | 4 => 4 | 0 => 0 | 20 => 20 | 72 => 71 | 76 => 74 | 70 => 69 | 37 => 43 | 75 => 73 | 127 => 111 | 164 => 120 | 5 => 5 | 80 => 76 | n => n, fun | n => n⟩
theorem Tryd.lays156 : Go.Proofs.Lays.n156 Tryd.prog Tryd.lays156_ren := {
  mixed := by kernel_rfl
  f156 := Tryd.func57.trans (congrArg some (by kernel_rfl))
  f165 := Tryd.func76.trans (congrArg some (by kernel_rfl))
  f166 := Tryd.func39.trans (congrArg some (by kernel_rfl))
  f169 := Tryd.func40.trans (congrArg some (by kernel_rfl))
  f240 := Tryd.func60.trans (congrArg some (by kernel_rfl))
  f241 := Tryd.func83.trans (congrArg some (by kernel_rfl))
  f276 := Tryd.func77.trans (congrArg some (by kernel_rfl))
  f277 := Tryd.func93.trans (congrArg some (by kernel_rfl))
  t0 := Tryd.underlying0
  a0 := Tryd.isAgg0
  z0 := Tryd.sizeOf0
  v0 := Tryd.zeroValue0
  t3 := Tryd.underlying3
  a3 := Tryd.isAgg3
  z3 := Tryd.sizeOf3
  v3 := Tryd.zeroValue3
  t4 := Tryd.underlying4
  a4 := Tryd.isAgg4
  z4 := Tryd.sizeOf4
  v4 := Tryd.zeroValue4
  t9 := Tryd.underlying9
  a9 := Tryd.isAgg9
  z9 := Tryd.sizeOf9
  v9 := Tryd.zeroValue9
  t20 := Tryd.underlying20
  a20 := Tryd.isAgg20
  z20 := Tryd.sizeOf20
  v20 := Tryd.zeroValue20
  t31 := Tryd.underlying79
  a31 := Tryd.isAgg79
  z31 := Tryd.sizeOf79
  v31 := Tryd.zeroValue79
  t37 := Tryd.underlying43
  a37 := Tryd.isAgg43
  z37 := Tryd.sizeOf43
  v37 := Tryd.zeroValue43
  t70 := Tryd.underlying69
  a70 := Tryd.isAgg69
  z70 := Tryd.sizeOf69
  v70 := Tryd.zeroValue69
  t72 := Tryd.underlying71
  a72 := Tryd.isAgg71
  z72 := Tryd.sizeOf71
  v72 := Tryd.zeroValue71
  t75 := Tryd.underlying73
  a75 := Tryd.isAgg73
  z75 := Tryd.sizeOf73
  v75 := Tryd.zeroValue73
  t76 := Tryd.underlying74
  a76 := Tryd.isAgg74
  z76 := Tryd.sizeOf74
  v76 := Tryd.zeroValue74
  t127 := Tryd.underlying111
  a127 := Tryd.isAgg111
  z127 := Tryd.sizeOf111
  v127 := Tryd.zeroValue111
  t164 := Tryd.underlying120
  a164 := Tryd.isAgg120
  z164 := Tryd.sizeOf120
  v164 := Tryd.zeroValue120 }
theorem Tryd.Builder_Extra_156 : Builder.Extra Tryd.prog Tryd.lays156_ren := {
  sizeBuilder := by kernel_rfl
  liesBuilder := by kernel_rfl
  t5 := Tryd.underlying5
  a5 := Tryd.isAgg5
  z5 := Tryd.sizeOf5
  v5 := Tryd.zeroValue5
  infoByte := by kernel_rfl
  cellsByte := by kernel_rfl
  sizeByte := by kernel_rfl
  neB5 := by decide }
open Go.RowKit in
/-- strings.Join: "Join concatenates the elements of its first argument to create a single string. The separator string sep is placed between elements in the resulting string.": HOWEVER MANY ELEMENTS. Below the heap's end the world is as it was. (LAID: no walk: one application.) -/
theorem Tryd.strings_Join (bk o c : Nat) (xs : List ByteArray) (sep : ByteArray) (w : World) (hcells : ∀ (j : Nat) x, xs[j]? = some x → w.cell? ⟨bk, o + j, none⟩ = some (.string x)) (hbk : bk < w.heap.size) (hN : xs.length ≤ 140737488355328) (hcap : xs.length ≤ c) (hlen : (Lib.join (xs.map (·.data.toList)) sep.data.toList).length ≤ 140737488355328) :
    Calls Tryd.prog 57 #[.slice (some ⟨bk, o, none⟩) xs.length c, .string sep] w fun e w' => e = .returned (.string ⟨(Lib.join (xs.map (·.data.toList)) sep.data.toList).toArray⟩) ∧ Below w.heap.size w w' := Any.strings_Join Tryd.lays156 Tryd.Builder_Extra_156 bk o c xs sep w hcells hbk hN hcap hlen
def Tryd.laysM246_ren : Go.Shelf.Ren := ⟨fun | 246 => 82 | 283 => 89 | 284 => 90 | 285 => 91 | 286 => 92 | 129 => 100 | 317 => 99 | 318 => 101 | 319 => 102 | 320 => 103 | 337 => 106 | 338 => 107 | n => n, fun | 2 => 2 | 3 => 3 | 9 => 9 | 4 => 4 | 171 => 130 | 0 => 0 | 53 => 110 | 37 => 43 | 5 => 5 | 173 => 133 | 212 => 138 | 51 => 139 | 20 => 20 | 213 => 140 | 46 => 86 | 232 => 149 | 233 => 150 | n => n, fun | 17 => 1 | 18 => 4 | 19 => 5 | n => n⟩
def Tryd.laysM243_ren : Go.Shelf.Ren := ⟨fun | 243 => 75 | 246 => 82 | 283 => 89 | 284 => 90 | 285 => 91 | 286 => 92 | 129 => 100 | 317 => 99 | 318 => 101 | 319 => 102 | 320 => 103 | 337 => 106 | 338 => 107 | n => n, fun | 3 => 3 | 9 => 9 | 2 => 2 | 4 => 4 | 171 => 130 | 0 => 0 | 53 => 110 | 37 => 43 | 5 => 5 | 173 => 133 | 212 => 138 | 51 => 139 | 20 => 20 | 213 => 140 | 46 => 86 | 232 => 149 | 233 => 150 | n => n, fun | 17 => 1 | 18 => 4 | 19 => 5 | n => n⟩
def Tryd.laysM171_ren : Go.Shelf.Ren := ⟨fun | 171 => 56 | 243 => 75 | 246 => 82 | 283 => 89 | 284 => 90 | 285 => 91 | 286 => 92 | 129 => 100 | 317 => 99 | 318 => 101 | 319 => 102 | 320 => 103 | 337 => 106 | 338 => 107 | n => n, fun | 3 => 3 | 9 => 9 | 2 => 2 | 4 => 4 | 171 => 130 | 0 => 0 | 53 => 110 | 37 => 43 | 5 => 5 | 173 => 133 | 212 => 138 | 51 => 139 | 20 => 20 | 213 => 140 | 46 => 86 | 232 => 149 | 233 => 150 | n => n, fun | 17 => 1 | 18 => 4 | 19 => 5 | n => n⟩
theorem Tryd.laysM171 : Go.Proofs.LaysM.n171 Tryd.prog Tryd.laysM171_ren := {
  mixed := by kernel_rfl
  f129 := Tryd.func100.trans (congrArg some (by kernel_rfl))
  f171 := Tryd.func56.trans (congrArg some (by kernel_rfl))
  f243 := Tryd.func75.trans (congrArg some (by kernel_rfl))
  f246 := Tryd.func82.trans (congrArg some (by kernel_rfl))
  f283 := Tryd.func89.trans (congrArg some (by kernel_rfl))
  f284 := Tryd.func90.trans (congrArg some (by kernel_rfl))
  f285 := Tryd.func91.trans (congrArg some (by kernel_rfl))
  f286 := Tryd.func92.trans (congrArg some (by kernel_rfl))
  f317 := Tryd.func99.trans (congrArg some (by kernel_rfl))
  f318 := Tryd.func101.trans (congrArg some (by kernel_rfl))
  f319 := Tryd.func102.trans (congrArg some (by kernel_rfl))
  f320 := Tryd.func103.trans (congrArg some (by kernel_rfl))
  f337 := Tryd.func106.trans (congrArg some (by kernel_rfl))
  f338 := Tryd.func107.trans (congrArg some (by kernel_rfl))
  t0 := Tryd.underlying0
  a0 := Tryd.isAgg0
  z0 := Tryd.sizeOf0
  v0 := Tryd.zeroValue0
  t2 := Tryd.underlying2
  a2 := Tryd.isAgg2
  z2 := Tryd.sizeOf2
  v2 := Tryd.zeroValue2
  t3 := Tryd.underlying3
  a3 := Tryd.isAgg3
  z3 := Tryd.sizeOf3
  v3 := Tryd.zeroValue3
  t4 := Tryd.underlying4
  a4 := Tryd.isAgg4
  z4 := Tryd.sizeOf4
  v4 := Tryd.zeroValue4
  t5 := Tryd.underlying5
  a5 := Tryd.isAgg5
  z5 := Tryd.sizeOf5
  v5 := Tryd.zeroValue5
  t9 := Tryd.underlying9
  a9 := Tryd.isAgg9
  z9 := Tryd.sizeOf9
  v9 := Tryd.zeroValue9
  t20 := Tryd.underlying20
  a20 := Tryd.isAgg20
  z20 := Tryd.sizeOf20
  v20 := Tryd.zeroValue20
  t37 := Tryd.underlying43
  a37 := Tryd.isAgg43
  z37 := Tryd.sizeOf43
  v37 := Tryd.zeroValue43
  t46 := Tryd.underlying86
  a46 := Tryd.isAgg86
  z46 := Tryd.sizeOf86
  v46 := Tryd.zeroValue86
  t51 := Tryd.underlying139
  a51 := Tryd.isAgg139
  z51 := Tryd.sizeOf139
  v51 := Tryd.zeroValue139
  t53 := Tryd.underlying110
  a53 := Tryd.isAgg110
  z53 := Tryd.sizeOf110
  v53 := Tryd.zeroValue110
  t171 := Tryd.underlying130
  a171 := Tryd.isAgg130
  z171 := Tryd.sizeOf130
  v171 := Tryd.zeroValue130
  t173 := Tryd.underlying133
  a173 := Tryd.isAgg133
  z173 := Tryd.sizeOf133
  v173 := Tryd.zeroValue133
  t212 := Tryd.underlying138
  a212 := Tryd.isAgg138
  z212 := Tryd.sizeOf138
  v212 := Tryd.zeroValue138
  t213 := Tryd.underlying140
  a213 := Tryd.isAgg140
  z213 := Tryd.sizeOf140
  t232 := Tryd.underlying149
  a232 := Tryd.isAgg149
  z232 := Tryd.sizeOf149
  v232 := Tryd.zeroValue149
  t233 := Tryd.underlying150
  a233 := Tryd.isAgg150
  z233 := Tryd.sizeOf150
  v233 := Tryd.zeroValue150
  g17 := by kernel_rfl
  g18 := by kernel_rfl
  g19 := by kernel_rfl
  i0 := by kernel_rfl
  i2 := by kernel_rfl
  i3 := by kernel_rfl
  i4 := by kernel_rfl
  i5 := by kernel_rfl
  i9 := by kernel_rfl
  i20 := by kernel_rfl
  i37 := by kernel_rfl
  i46 := by kernel_rfl
  i51 := by kernel_rfl
  i53 := by kernel_rfl
  i171 := by kernel_rfl
  i173 := by kernel_rfl
  i212 := by kernel_rfl
  i232 := by kernel_rfl
  i233 := by kernel_rfl
  m17 := by kernel_rfl
  m18 := by kernel_rfl
  m19 := by kernel_rfl }
open Go.RowKit Go.Sort Go.Lib in
/-- strconv.Itoa: "Itoa is equivalent to FormatInt(int64(i), 10).": i's DECIMAL NUMERAL ('Lib.itoa': a '-' where i is negative, then the digits), FOR EVERY int. The world behind the call: the world before it, new blocks behind the heap (the library's 'var a [24]byte'), draws. (LAID: no walk: one application.) -/
theorem Tryd.strconv_Itoa (n : Int) (h0 : -9223372036854775808 ≤ n) (h1 : n ≤ 9223372036854775807) (w : World) (htab : Lib.TabIs Tryd.prog w "internal/strconv.uint64pow10" .u64 Lib.pow10Tab) :
    Calls Tryd.prog 56 #[.int .i64 n] w fun e w' => e = .returned (.string ⟨(Lib.itoa n).toArray⟩) ∧ ∃ k os, w' = grow (w.drewN k) os := Any.strconv_Itoa Tryd.laysM171 n h0 h1 w htab
end Go.Proofs
namespace Go.Proofs.YtlhmpmmblnbmbaaDoor.PReportZones
open Go.RowKit Go.Proofs.YtlhmpmmblnbmbaaDoorW.PrintWords Go.Proofs.YtlhmpmmblnbmbaaDoorW.PrintLast Go.Proofs.YtlhmpmmblnbmbaaDoorW.PrintMore
attribute [local go_sem] max2_int min2_int max_two min_two max_three min_three max_four min_four   -- for this text's walks alone
set_option linter.unusedVariables false
set_option linter.unusedSimpArgs false
def errW : Option Int → Value
  | none => .nilIface
  | some c => .iface 0 (.int .i64 c)
theorem errW_none : errW none = .nilIface := rfl
theorem errW_some (c : Int) : errW (some c) = .iface 0 (.int .i64 c) := rfl
theorem info9 : (Tryd.prog.info? 9).map (fun i => (i.zero, i.size, i.bytes)) = some (some (.string ⟨#[]⟩), 1, 16) := by kernel_rfl
end Go.Proofs.YtlhmpmmblnbmbaaDoor.PReportZones
namespace Go.Proofs.YtlhmpmmblnbmbaaDoor.Rep
open Go.Lib Go.RowKit Go.Proofs.YtlhmpmmblnbmbaaDoor.Cells Go.Proofs.YtlhmpmmblnbmbaaDoorW.PrintWords Go.Proofs.YtlhmpmmblnbmbaaDoorW.PrintLast Go.Proofs.YtlhmpmmblnbmbaaDoorW.PrintMore
/-- the library's table of powers stands as it was laid -/
def POW (w : World) : Prop := Go.Lib.TabIs Tryd.prog w "internal/strconv.uint64pow10" .u64 Go.Lib.pow10Tab
theorem POW.below {w w' : World} (h : POW w) (hb : Below w.heap.size w w') : POW w' := by
  unfold POW Go.Lib.TabIs World.var? at *
  obtain ⟨g, hg, hc⟩ := Option.bind_eq_some_iff.1 h
  rw [hg]
  simp only [Option.bind_some] at hc ⊢
  have hlt : g < w.heap.size := by
    by_cases hh : g < w.heap.size
    · exact hh
    · rw [Array.getElem?_eq_none (by omega)] at hc; simp at hc
  rw [hb.block g hlt]; exact hc
/-- an int -/
def I64 (n : Int) : Prop := -9223372036854775808 ≤ n ∧ n ≤ 9223372036854775807
def itoaB (n : Int) : ByteArray := ⟨(Go.Lib.itoa n).toArray⟩
/-- a row of texts -/
def Strs (w : World) (v : Value) (l : List ByteArray) : Prop := ∃ bk o c, v = .slice (some ⟨bk, o, none⟩) l.length c ∧ l.length ≤ c ∧ bk < w.heap.size ∧ ∀ (j : Nat) s, l[j]? = some s → w.cell? ⟨bk, o + j, none⟩ = some (.string s)
theorem Strs.below {w w1 : World} {v : Value} {l : List ByteArray} (h : Strs w v l) (hb : Below w.heap.size w w1) : Strs w1 v l := by
  obtain ⟨bk, o, c, h1, h2, h3, h4⟩ := h
  exact ⟨bk, o, c, h1, h2, Nat.lt_of_lt_of_le h3 hb.size, fun j s hj => (hb.cell h3).trans (h4 j s hj)⟩
/-- texts with blanks between -/
def wordsB (l : List ByteArray) : ByteArray := ⟨(Go.Lib.join (l.map (·.data.toList)) [32]).toArray⟩
end Go.Proofs.YtlhmpmmblnbmbaaDoor.Rep
namespace Go.Proofs.YtlhmpmmblnbmbaaDoor.Rep
open Go.RowKit Go.Proofs.YtlhmpmmblnbmbaaDoor.Ev Go.Proofs.YtlhmpmmblnbmbaaDoor.Cells Go.Proofs.YtlhmpmmblnbmbaaDoorW.PrintWords Go.Proofs.YtlhmpmmblnbmbaaDoorW.PrintLast Go.Proofs.YtlhmpmmblnbmbaaDoorW.PrintMore
theorem fa54_0 (g o : Nat) (w : World) : (Instr.fieldAt 54 (.pointer (some ⟨g, o, none⟩)) 0).run Tryd.prog w = .ok (.pointer (some ⟨g, o, none⟩)) w := by
  have hu := Tryd.underlying54
  go_simp
theorem fa54_1 (g o : Nat) (w : World) : (Instr.fieldAt 54 (.pointer (some ⟨g, o, none⟩)) 1).run Tryd.prog w = .ok (.pointer (some ⟨g, o + 1, none⟩)) w := by
  have hu := Tryd.underlying54
  go_simp
theorem fa54_2 (g o : Nat) (w : World) : (Instr.fieldAt 54 (.pointer (some ⟨g, o, none⟩)) 2).run Tryd.prog w = .ok (.pointer (some ⟨g, o + 2, none⟩)) w := by
  have hu := Tryd.underlying54
  go_simp
theorem fa54_3 (g o : Nat) (w : World) : (Instr.fieldAt 54 (.pointer (some ⟨g, o, none⟩)) 3).run Tryd.prog w = .ok (.pointer (some ⟨g, o + 3, none⟩)) w := by
  have hu := Tryd.underlying54
  go_simp
theorem fa54_4 (g o : Nat) (w : World) : (Instr.fieldAt 54 (.pointer (some ⟨g, o, none⟩)) 4).run Tryd.prog w = .ok (.pointer (some ⟨g, o + 4, none⟩)) w := by
  have hu := Tryd.underlying54
  go_simp
theorem fa54_5 (g o : Nat) (w : World) : (Instr.fieldAt 54 (.pointer (some ⟨g, o, none⟩)) 5).run Tryd.prog w = .ok (.pointer (some ⟨g, o + 5, none⟩)) w := by
  have hu := Tryd.underlying54
  go_simp
theorem fa56_0 (g o : Nat) (w : World) : (Instr.fieldAt 56 (.pointer (some ⟨g, o, none⟩)) 0).run Tryd.prog w = .ok (.pointer (some ⟨g, o, none⟩)) w := by
  have hu := Tryd.underlying56
  go_simp
theorem fa56_1 (g o : Nat) (w : World) : (Instr.fieldAt 56 (.pointer (some ⟨g, o, none⟩)) 1).run Tryd.prog w = .ok (.pointer (some ⟨g, o + 1, none⟩)) w := by
  have hu := Tryd.underlying56
  go_simp
theorem fa56_2 (g o : Nat) (w : World) : (Instr.fieldAt 56 (.pointer (some ⟨g, o, none⟩)) 2).run Tryd.prog w = .ok (.pointer (some ⟨g, o + 7, none⟩)) w := by
  have hu := Tryd.underlying56
  go_simp
theorem fa56_3 (g o : Nat) (w : World) : (Instr.fieldAt 56 (.pointer (some ⟨g, o, none⟩)) 3).run Tryd.prog w = .ok (.pointer (some ⟨g, o + 8, none⟩)) w := by
  have hu := Tryd.underlying56
  go_simp
theorem fa56_4 (g o : Nat) (w : World) : (Instr.fieldAt 56 (.pointer (some ⟨g, o, none⟩)) 4).run Tryd.prog w = .ok (.pointer (some ⟨g, o + 9, none⟩)) w := by
  have hu := Tryd.underlying56
  go_simp
theorem row1_79 {o : Oper} {a : Act} {w : World} {x0 : Operand} {s0 : ByteArray} (ho : o.op = .buildSlice 79 1 #[(0, x0)]) (h0 : a.eval x0 = .string s0) : (execOp a.eval o).run Tryd.prog w = .ok (.value (.slice (some ⟨w.heap.size, 0, none⟩) 1 1)) (w.alloc (.cells #[.string s0] 9 (0, 0))) := by
  have hu := Tryd.underlying79
  have hue := Tryd.underlying9
  unfold execOp
  simp only [ho, List.map_toArray, List.map_cons, List.map_nil, h0]
  clear ho h0
  first
  | (go_simp; done)
  | (go_simp; rfl)
theorem row2_43 {o : Oper} {a : Act} {w : World} {x0 x1 : Operand} {s0 s1 : Int} (ho : o.op = .buildSlice 43 2 #[(0, x0), (1, x1)]) (h0 : a.eval x0 = .int .u8 s0) (h1 : a.eval x1 = .int .u8 s1) : (execOp a.eval o).run Tryd.prog w = .ok (.value (.slice (some ⟨w.heap.size, 0, none⟩) 2 2)) (w.alloc (.cells #[.int .u8 s0, .int .u8 s1] 5 (0, 0))) := by
  have hu := Tryd.underlying43
  have hue := Tryd.underlying5
  unfold execOp
  simp only [ho, List.map_toArray, List.map_cons, List.map_nil, h0, h1]
  clear ho h0 h1
  first
  | (go_simp; done)
  | (go_simp; rfl)
theorem row8_79 {o : Oper} {a : Act} {w : World} {x0 x1 x2 x3 x4 x5 x6 x7 : Operand} {s0 s1 s2 s3 s4 s5 s6 s7 : ByteArray} (ho : o.op = .buildSlice 79 8 #[(0, x0), (1, x1), (2, x2), (3, x3), (4, x4), (5, x5), (6, x6), (7, x7)]) (h0 : a.eval x0 = .string s0) (h1 : a.eval x1 = .string s1) (h2 : a.eval x2 = .string s2) (h3 : a.eval x3 = .string s3) (h4 : a.eval x4 = .string s4) (h5 : a.eval x5 = .string s5) (h6 : a.eval x6 = .string s6) (h7 : a.eval x7 = .string s7) : (execOp a.eval o).run Tryd.prog w = .ok (.value (.slice (some ⟨w.heap.size, 0, none⟩) 8 8)) (w.alloc (.cells #[.string s0, .string s1, .string s2, .string s3, .string s4, .string s5, .string s6, .string s7] 9 (0, 0))) := by
  have hu := Tryd.underlying79
  have hue := Tryd.underlying9
  unfold execOp
  simp only [ho, List.map_toArray, List.map_cons, List.map_nil, h0, h1, h2, h3, h4, h5, h6, h7]
  clear ho h0 h1 h2 h3 h4 h5 h6 h7
  first
  | (go_simp; done)
  | (go_simp; rfl)
theorem size3 : (Tryd.prog.info? 3).map (·.size) = some 1 := by kernel_rfl
theorem size5 : (Tryd.prog.info? 5).map (·.size) = some 1 := by kernel_rfl
theorem size9 : (Tryd.prog.info? 9).map (·.size) = some 1 := by kernel_rfl
theorem size56 : (Tryd.prog.info? 56).map (·.size) = some 10 := by kernel_rfl
theorem info9 : (Tryd.prog.info? 9).map (fun i => (i.zero, i.size, i.bytes)) = some (some (.string ⟨#[]⟩), 1, 16) := by kernel_rfl
theorem info5 : (Tryd.prog.info? 5).map (fun i => (i.zero, i.size, i.bytes)) = some (some (.int .u8 0), 1, 1) := by kernel_rfl
end Go.Proofs.YtlhmpmmblnbmbaaDoor.Rep
namespace Go.Proofs.YtlhmpmmblnbmbaaDoor.Rep
open Go.Lib Go.RowKit Go.Proofs.YtlhmpmmblnbmbaaDoor.Cells Go.Proofs.YtlhmpmmblnbmbaaDoorW.PrintWords Go.Proofs.YtlhmpmmblnbmbaaDoorW.PrintLast Go.Proofs.YtlhmpmmblnbmbaaDoorW.PrintMore
def DIG : ByteArray := ⟨#[48, 49, 50, 51, 52, 53, 54, 55, 56, 57]⟩
theorem dig_ext (d : Nat) (h : d < 10) : (DIG.extract d (d + 1)).data.toList = [UInt8.ofNat (48 + d)] := by
 have : ∀ d : Fin 10, (DIG.extract d.val (d.val + 1)).data.toList = [UInt8.ofNat (48 + d.val)] := by decide +kernel
 exact this ⟨d, h⟩
theorem dec_big (u : Nat) (h : ¬ u < 10) : Go.Lib.decDigits u = Go.Lib.decDigits (u / 10) ++ [UInt8.ofNat (48 + u % 10)] := by rw [Go.Lib.decDigits, dif_neg h]
theorem dec_len (u : Nat) (h : u < 18446744073709551616) : (Go.Lib.decDigits u).length ≤ 20 := by rw [Go.Lib.decDigits_length]; exact Go.Lib.nDigits_le20 u h
/-- one more digit ahead -/
theorem dig_more (u : Nat) (h : ¬ u < 10) (acc : ByteArray) : Go.Lib.decDigits (u / 10) ++ (DIG.extract (u % 10) (u % 10 + 1) ++ acc).data.toList = Go.Lib.decDigits u ++ acc.data.toList := by
 rw [dec_big u h, ByteArray.data_append, Array.toList_append, dig_ext _ (Nat.mod_lt _ (by omega)), List.append_assoc]
theorem dig_last (u : Nat) (h : u < 10) (acc : ByteArray) (l : List UInt8) (e : Go.Lib.decDigits u ++ acc.data.toList = l) : DIG.extract u (u + 1) ++ acc = ⟨l.toArray⟩ := by
 rw [Go.Lib.decDigits_one h, ← dig_ext u h, ← Array.toList_append, ← ByteArray.data_append] at e
 rw [← e]
theorem dig_run (W : World) (i : Int) (h0 : 0 ≤ i) (h1 : i < 10) : (Instr.slice 9 (.string ⟨#[48, 49, 50, 51, 52, 53, 54, 55, 56, 57]⟩) (some (.int .i64 i)) (some (.int .i64 (i + 1))) none).run Tryd.prog W = .ok (.string (DIG.extract i.toNat (i.toNat + 1))) W := by
 have hs : (DIG.size : Int) = 10 := rfl
 have e : (i + 1).toNat = i.toNat + 1 := by omega
 have := run_slice_string_if (P := Tryd.prog) W 9 DIG .i64 .i64 i (i + 1) Tryd.underlying9
 rw [if_pos (by omega), if_pos (by omega), e] at this
 exact this
set_option maxHeartbeats 4000000 in
set_option maxRecDepth 100000 in
theorem rnum_c (n : Int) (hn : I64 n) (w : World) : Calls Tryd.prog 38 #[.int .i64 n] w fun e w' => e = .returned (.string (itoaB n)) ∧ Below w.heap.size w w' := by
 have hu1 := Tryd.underlying3
 have hu2 := Tryd.underlying9
 have hu3 := Tryd.underlying110
 obtain ⟨hn0, hn1⟩ := hn
 by_cases hneg : n < 0
 ·obtain ⟨m, hm⟩ : ∃ m : Nat, n = -(m : Int) := ⟨n.natAbs, by omega⟩
  have hm2 : m ≤ 9223372036854775808 := by omega
  subst hm
  have hd0 : decide ((-(m : Int) : Int) < 0) = true := decide_eq_true (by omega)
  have hw0 : IntKind.u64.wrap (-IntKind.u64.wrap (-(m : Int))) = m := by rw [IntKind.wrap_u64, IntKind.wrap_u64]; omega
  go_enter Tryd.func38, Tryd.ntmps38
  go_wp2
  go_loopg [3, 4] m (fun g v3 v4 wr => ∃ (u : Nat) (acc : ByteArray), u < 18446744073709551616 ∧ v3 = .string acc ∧ v4 = .int .u64 u ∧ Aside0 (g = u) ∧ Aside0 (Go.Lib.decDigits u ++ acc.data.toList = Go.Lib.decDigits m) ∧ Aside0 (wr = w))
  case atStart => exact ⟨m, _, by omega, rfl, rfl, ⟨rfl⟩, ⟨by simp⟩, ⟨rfl⟩⟩
  case round =>
   obtain ⟨u, acc, hu, rfl, rfl, HG, HE, HW⟩ := hrel
   have hal : acc.size ≤ 20 := by
    have h1 := congrArg List.length HE.out
    have h2 := dec_len m (by omega)
    rw [List.length_append] at h1
    have h3 : acc.data.toList.length = acc.size := rfl
    omega
   by_cases hlt : u < 10
   ·have hd1 : decide ((u : Int) ≥ 10) = false := decide_eq_false (by omega)
    have hd2 : decide ((10 : Int) ≤ (u : Int)) = false := decide_eq_false (by omega)
    have hw2 : wrap64 (u : Int) = u := by unfold wrap64; omega
    have hw3 : wrap64 ((u : Int) + 1) = u + 1 := by unfold wrap64; omega
    have ht : ((u : Int) + 1).toNat = u + 1 := by omega
    have hsl := fun W => dig_run W (u : Int) (by omega) (by omega)
    have hx1 := dig_last u hlt acc _ HE.out
    rw [Int.toNat_natCast] at hsl
    obtain ⟨x, hx⟩ : ∃ x, DIG.extract u (u + 1) = x := ⟨_, rfl⟩
    have hxs : x.size ≤ 10 := by rw [← hx, ByteArray.size_extract]; exact Nat.le_trans (Nat.sub_le _ _) (Nat.min_le_right _ _)
    rw [hx] at hsl hx1
    have HX := Aside0.mk hx1
    have hap : (x ++ acc).size ≤ 30 := by rw [ByteArray.size_append]; omega
    have hc1 : x.size + acc.size ≤ 9223372036854775807 := by omega
    have hc2 : (9223372036854775807 < x.size + acc.size) = False := eq_false (by omega)
    have hc3 : 1 + (x ++ acc).size ≤ 9223372036854775807 := by omega
    have hc4 : (9223372036854775807 < 1 + (x ++ acc).size) = False := eq_false (by omega)
    clear hx hx1
    go_wp2
    go_ret
    obtain rfl := HW.out
    refine ⟨?_, Below.refl _ _⟩
    show Ending.returned (.string (_ ++ (x ++ acc))) = _; rw [HX.out]; have e : itoaB (-(m : Int)) = ⟨#[45]⟩ ++ ⟨(Go.Lib.decDigits m).toArray⟩ := (by unfold itoaB; rw [Go.Lib.itoa_neg m (by omega)]; apply ByteArray.ext; simp); rw [e]
   ·have hd1 : decide ((u : Int) ≥ 10) = true := decide_eq_true (by omega)
    have hd2 : decide ((10 : Int) ≤ (u : Int)) = true := decide_eq_true (by omega)
    have hsl := fun W => dig_run W ((u : Int) % 10) (by omega) (by omega)
    have htn : ((u : Int) % 10).toNat = u % 10 := by omega
    rw [htn] at hsl
    clear htn
    have hx1 := dig_more u hlt acc
    obtain ⟨x, hx⟩ : ∃ x, DIG.extract (u % 10) (u % 10 + 1) = x := ⟨_, rfl⟩
    have hxs : x.size ≤ 10 := by rw [← hx, ByteArray.size_extract]; exact Nat.le_trans (Nat.sub_le _ _) (Nat.min_le_right _ _)
    rw [hx, HE.out] at hx1
    rw [hx] at hsl
    have HX := Aside0.mk hx1
    have hc1 : x.size + acc.size ≤ 9223372036854775807 := by omega
    have hc2 : (9223372036854775807 < x.size + acc.size) = False := eq_false (by omega)
    clear hx hx1
    have HG2 := Aside0.mk (show ∃ g1, gk = g1 + 1 from ⟨gk - 1, by have := HG.out; omega⟩)
    obtain ⟨g1, rfl⟩ := HG2.out
    go_wp2
    go_roundg (u / 10)
    case measure => have := HG.out; omega
    case rel => exact ⟨u / 10, x ++ acc, by omega, rfl, by go_num, ⟨rfl⟩, HX, HW⟩
 ·obtain ⟨m, hm⟩ : ∃ m : Nat, n = (m : Int) := ⟨n.natAbs, by omega⟩
  have hm2 : m ≤ 9223372036854775808 := by omega
  subst hm
  have hd0 : decide (((m : Int) : Int) < 0) = false := decide_eq_false (by omega)
  go_enter Tryd.func38, Tryd.ntmps38
  go_wp2
  go_loopg [3, 4] m (fun g v3 v4 wr => ∃ (u : Nat) (acc : ByteArray), u < 18446744073709551616 ∧ v3 = .string acc ∧ v4 = .int .u64 u ∧ Aside0 (g = u) ∧ Aside0 (Go.Lib.decDigits u ++ acc.data.toList = Go.Lib.decDigits m) ∧ Aside0 (wr = w))
  case atStart => exact ⟨m, _, by omega, rfl, by go_num, ⟨rfl⟩, ⟨by simp⟩, ⟨rfl⟩⟩
  case round =>
   obtain ⟨u, acc, hu, rfl, rfl, HG, HE, HW⟩ := hrel
   have hal : acc.size ≤ 20 := by
    have h1 := congrArg List.length HE.out
    have h2 := dec_len m (by omega)
    rw [List.length_append] at h1
    have h3 : acc.data.toList.length = acc.size := rfl
    omega
   by_cases hlt : u < 10
   ·have hd1 : decide ((u : Int) ≥ 10) = false := decide_eq_false (by omega)
    have hd2 : decide ((10 : Int) ≤ (u : Int)) = false := decide_eq_false (by omega)
    have hw2 : wrap64 (u : Int) = u := by unfold wrap64; omega
    have hw3 : wrap64 ((u : Int) + 1) = u + 1 := by unfold wrap64; omega
    have ht : ((u : Int) + 1).toNat = u + 1 := by omega
    have hsl := fun W => dig_run W (u : Int) (by omega) (by omega)
    have hx1 := dig_last u hlt acc _ HE.out
    rw [Int.toNat_natCast] at hsl
    obtain ⟨x, hx⟩ : ∃ x, DIG.extract u (u + 1) = x := ⟨_, rfl⟩
    have hxs : x.size ≤ 10 := by rw [← hx, ByteArray.size_extract]; exact Nat.le_trans (Nat.sub_le _ _) (Nat.min_le_right _ _)
    rw [hx] at hsl hx1
    have HX := Aside0.mk hx1
    have hap : (x ++ acc).size ≤ 30 := by rw [ByteArray.size_append]; omega
    have hc1 : x.size + acc.size ≤ 9223372036854775807 := by omega
    have hc2 : (9223372036854775807 < x.size + acc.size) = False := eq_false (by omega)
    have hc3 : 1 + (x ++ acc).size ≤ 9223372036854775807 := by omega
    have hc4 : (9223372036854775807 < 1 + (x ++ acc).size) = False := eq_false (by omega)
    clear hx hx1
    go_wp2
    go_ret
    obtain rfl := HW.out
    refine ⟨?_, Below.refl _ _⟩
    show Ending.returned (.string (x ++ acc)) = _; rw [HX.out]; unfold itoaB; rw [Go.Lib.itoa_nonneg]
   ·have hd1 : decide ((u : Int) ≥ 10) = true := decide_eq_true (by omega)
    have hd2 : decide ((10 : Int) ≤ (u : Int)) = true := decide_eq_true (by omega)
    have hsl := fun W => dig_run W ((u : Int) % 10) (by omega) (by omega)
    have htn : ((u : Int) % 10).toNat = u % 10 := by omega
    rw [htn] at hsl
    clear htn
    have hx1 := dig_more u hlt acc
    obtain ⟨x, hx⟩ : ∃ x, DIG.extract (u % 10) (u % 10 + 1) = x := ⟨_, rfl⟩
    have hxs : x.size ≤ 10 := by rw [← hx, ByteArray.size_extract]; exact Nat.le_trans (Nat.sub_le _ _) (Nat.min_le_right _ _)
    rw [hx, HE.out] at hx1
    rw [hx] at hsl
    have HX := Aside0.mk hx1
    have hc1 : x.size + acc.size ≤ 9223372036854775807 := by omega
    have hc2 : (9223372036854775807 < x.size + acc.size) = False := eq_false (by omega)
    clear hx hx1
    have HG2 := Aside0.mk (show ∃ g1, gk = g1 + 1 from ⟨gk - 1, by have := HG.out; omega⟩)
    obtain ⟨g1, rfl⟩ := HG2.out
    go_wp2
    go_roundg (u / 10)
    case measure => have := HG.out; omega
    case rel => exact ⟨u / 10, x ++ acc, by omega, rfl, by go_num, ⟨rfl⟩, HX, HW⟩
end Go.Proofs.YtlhmpmmblnbmbaaDoor.Rep
namespace Go.Proofs.YtlhmpmmblnbmbaaDoor.Rep
open Go.Lib Go.RowKit Go.Proofs.YtlhmpmmblnbmbaaDoor.Cells Go.Proofs.YtlhmpmmblnbmbaaDoorW.PrintWords Go.Proofs.YtlhmpmmblnbmbaaDoorW.PrintLast Go.Proofs.YtlhmpmmblnbmbaaDoorW.PrintMore
theorem itoa_size (n : Int) (h : I64 n) : (itoaB n).size ≤ 21 := Go.Lib.itoa_length_le n h.1 h.2
end Go.Proofs.YtlhmpmmblnbmbaaDoor.Rep
namespace Go.Proofs.YtlhmpmmblnbmbaaDoor.Rep
open Go.Lib Go.RowKit Go.Proofs.YtlhmpmmblnbmbaaDoor.Ev Go.Proofs.YtlhmpmmblnbmbaaDoor.Cells Go.Proofs.YtlhmpmmblnbmbaaDoorW.PrintWords Go.Proofs.YtlhmpmmblnbmbaaDoorW.PrintLast Go.Proofs.YtlhmpmmblnbmbaaDoorW.PrintMore
theorem wordsB_nil : wordsB [] = ⟨#[]⟩ := by simp [wordsB, Go.Lib.join]
theorem wordsB_one (x : ByteArray) : wordsB [x] = x := by
  apply ByteArray.ext; apply Array.toList_inj.1; simp [wordsB, Go.Lib.join]
theorem wordsB_cons (x y : ByteArray) (l : List ByteArray) : wordsB (x :: y :: l) = x ++ ⟨#[32]⟩ ++ wordsB (y :: l) := by
  apply ByteArray.ext; apply Array.toList_inj.1
  simp [wordsB, Go.Lib.join, List.intercalate]
theorem wordsB_size (n : Nat) : ∀ l : List ByteArray, (∀ s ∈ l, s.size ≤ n) → (wordsB l).size ≤ (n + 1) * l.length
  | [], _ => by rw [wordsB_nil]; exact Nat.zero_le _
  | [x], h => by
    rw [wordsB_one]
    have := h x (by simp)
    simp only [List.length_singleton]; omega
  | x :: y :: l, h => by
    have h1 := h x (by simp)
    have h2 := wordsB_size n (y :: l) (fun s hs => h s (by simp at hs ⊢; exact .inr hs))
    have h3 : (⟨#[32]⟩ : ByteArray).size = 1 := rfl
    rw [wordsB_cons, ByteArray.size_append, ByteArray.size_append, h3]
    rw [List.length_cons, Nat.mul_add (n + 1)]
    omega
theorem wordsB_snoc (x y : ByteArray) : ∀ l : List ByteArray, wordsB (x :: l ++ [y]) = wordsB (x :: l) ++ ⟨#[32]⟩ ++ y
  | [] => by rw [List.singleton_append, wordsB_cons, wordsB_one, wordsB_one]
  | z :: l => by
    show wordsB (x :: z :: (l ++ [y])) = _
    rw [wordsB_cons, wordsB_cons, show z :: (l ++ [y]) = z :: l ++ [y] from rfl, wordsB_snoc z y l]
    simp only [ByteArray.append_assoc]
theorem strs_R {w : World} {base : Nat} {ok : Nat → Prop} {v : Value} {l : List ByteArray} (h : Kd.R Kd.string 9 w base ok v l) (hn : l ≠ []) : Strs w v l := by
  have ho := Kd.own_of_R (enc := Value.string) (h1 := fun _ => rfl) h
  obtain ⟨_, hx | ⟨g, cap, cur, rfl, hg, hh, hn2, hc, hs, hcur⟩⟩ := ho
  · obtain ⟨_, hz⟩ := hx
    cases l with
    | nil => exact absurd rfl hn
    | cons a l => simp at hz
  · refine ⟨g, 0, cap, rfl, hn2, blk_lt hh, fun j s hj => ?_⟩
    rw [Nat.zero_add]
    refine (blk_cell hh j).trans ?_
    have hl := (List.getElem?_eq_some_iff.1 hj).1
    have : (List.take (l.length * 1) cur.toList)[j]? = some (.string s) := by rw [hcur, encs, List.getElem?_map, hj]; rfl
    rw [List.getElem?_take_of_lt (by omega)] at this
    rw [← Array.getElem?_toList]; exact this
end Go.Proofs.YtlhmpmmblnbmbaaDoor.Rep
namespace Go.Proofs.YtlhmpmmblnbmbaaDoor.Rep
set_option linter.unusedVariables false
set_option linter.unusedSimpArgs false
open Go.Lib Go.RowKit Go.Proofs.YtlhmpmmblnbmbaaDoor.Ev Go.Proofs.YtlhmpmmblnbmbaaDoor.Cells Go.Proofs.YtlhmpmmblnbmbaaDoorW.PrintWords Go.Proofs.YtlhmpmmblnbmbaaDoorW.PrintLast Go.Proofs.YtlhmpmmblnbmbaaDoorW.PrintMore
def HD : ByteArray := ⟨#[48, 49, 50, 51, 52, 53, 54, 55, 56, 57, 97, 98, 99, 100, 101, 102]⟩
def hexN (l : List Int) : List Int := l.flatMap fun c => [bt HD (c / 16), bt HD (c % 16)]
def hexB (l : List Int) : ByteArray := strOfNums (hexN l)
theorem hexN_snoc (l : List Int) (k : Nat) (h : k < l.length) : hexN (l.take k) ++ [bt HD (l.getD k 0 / 16), bt HD (l.getD k 0 % 16)] = hexN (l.take (k + 1)) := by
  unfold hexN
  rw [List.take_succ_eq_append_getElem h, List.flatMap_append, List.getD_eq_getElem?_getD, List.getElem?_eq_getElem h]; simp
theorem hexN_len (l : List Int) : (hexN l).length = 2 * l.length := by
  unfold hexN
  induction l with
  | nil => rfl
  | cons x l ih => rw [List.flatMap_cons, List.length_append, ih]; simp; omega
theorem and15 : ∀ n : Fin 256, Go.bits .and .u8 ((n.val : Nat) : Int) 15 = (n.val : Int) % 16 := by decide +kernel
theorem and15' (x : Int) (h0 : 0 ≤ x) (h1 : x ≤ 255) : Go.bits .and .u8 x 15 = x % 16 := by
  have := and15 ⟨x.toNat, by omega⟩
  simp only [Int.toNat_of_nonneg h0] at this
  exact this
theorem strOf_app (a b : List Int) : strOfNums (a ++ b) = strOfNums a ++ strOfNums b := by
  unfold strOfNums
  apply ByteArray.ext; simp
theorem dig_cut : ∀ n : Fin 16, HD.extract n.val (n.val + 1) = strOfNums [bt HD ((n.val : Nat) : Int)] := by decide +kernel
theorem dig_cut' (x : Int) (h0 : 0 ≤ x) (h1 : x < 16) : HD.extract x.toNat (x + 1).toNat = strOfNums [bt HD x] := by
  have := dig_cut ⟨x.toNat, by omega⟩
  simp only [Int.toNat_of_nonneg h0] at this
  rw [← this, show (x + 1).toNat = x.toNat + 1 by omega]
theorem hexB_size (l : List Int) : (hexB l).size = 2 * l.length := by
  unfold hexB strOfNums
  show (Array.size _) = _
  simp [hexN_len]
def B8 (l : List Int) : Prop := ∀ x ∈ l, 0 ≤ x ∧ x ≤ 255
theorem elem8 {w : World} {A : Option Addr} {n : Nat} {l : List Int} (h : Kd.C (Kd.int .u8) w A n l) (i : Nat) (h1 : i < n) : ∃ ad, A = some ad ∧ w.cell? (ad.add (i * 1)) = some (.int .u8 (l.getD i 0)) := by
  obtain ⟨ad, hA, hc⟩ := Kd.at_int h (i : Int) (by omega) (by omega)
  refine ⟨ad, hA, ?_⟩
  rw [Int.toNat_natCast] at hc
  rw [Nat.mul_one, hc]; simp [rd]
theorem B8_at {l : List Int} (h : B8 l) (i : Nat) : 0 ≤ l.getD i 0 ∧ l.getD i 0 ≤ 255 := by
  by_cases hi : i < l.length
  · rw [List.getD_eq_getElem?_getD, List.getElem?_eq_getElem hi]; exact h _ (List.getElem_mem hi)
  · rw [List.getD_eq_getElem?_getD, List.getElem?_eq_none (by omega)]; exact ⟨by decide, by decide⟩
theorem hexB_snoc (l : List Int) (hb : B8 l) (k : Nat) (h : k < l.length) : hexB (l.take k) ++ HD.extract (l.getD k 0 / 16).toNat (l.getD k 0 / 16 + 1).toNat ++ HD.extract (l.getD k 0 % 16).toNat (l.getD k 0 % 16 + 1).toNat = hexB (l.take (k + 1)) := by
  have hx := B8_at hb k
  rw [dig_cut' _ (by omega) (by omega), dig_cut' _ (by omega) (by omega), hexB, hexB, ← hexN_snoc l k h, show [bt HD (l.getD k 0 / 16), bt HD (l.getD k 0 % 16)] = [bt HD (l.getD k 0 / 16)] ++ [bt HD (l.getD k 0 % 16)] from rfl, ← List.append_assoc, strOf_app, strOf_app]
theorem cut_size (x : Int) (h0 : 0 ≤ x) (h1 : x < 16) : (HD.extract x.toNat (x + 1).toNat).size ≤ 1 := by
  rw [dig_cut' x h0 h1]; exact Nat.le_refl 1
end Go.Proofs.YtlhmpmmblnbmbaaDoor.Rep
set_option linter.unusedVariables false
set_option linter.unusedSimpArgs false
namespace Go.Proofs.YtlhmpmmblnbmbaaDoor.Rep
open Go.Lib Go.RowKit Go.Proofs.YtlhmpmmblnbmbaaDoor.Ev Go.Proofs.YtlhmpmmblnbmbaaDoor.Cells Go.Proofs.YtlhmpmmblnbmbaaDoorW.PrintWords Go.Proofs.YtlhmpmmblnbmbaaDoorW.PrintLast Go.Proofs.YtlhmpmmblnbmbaaDoorW.PrintMore
set_option maxHeartbeats 4000000 in
set_option maxRecDepth 100000 in
theorem hex_c (l : List Int) (A : Option Addr) (c : Nat) (hb : B8 l) (hn : l.length ≤ 1000000) (w : World) (hC : Kd.C (Kd.int .u8) w A l.length l) : Calls Tryd.prog 25 #[.slice A l.length c] w fun e w' => e = .returned (.string (hexB l)) ∧ Below w.heap.size w w' := by
 obtain ⟨n, HN⟩ : ∃ n, Aside0 (l.length = n) := ⟨_, ⟨rfl⟩⟩
 have HB8 := Aside0.mk hb
 rw [HN.out] at hn hC ⊢
 have HC := Aside0.mk hC
 clear hC hb
 go_enter Tryd.func25, Tryd.ntmps25
 go_upto_region 0 with fail
 refine Flow.seqT (E := fun u v => Below u.heap.size u v) [(some 2, [])] (fun iQ vQ wQ => match iQ with | 0 => vQ = (.string ⟨#[]⟩) | _ => True) rfl (by kernel_rfl) (Below.refl _ _) (fun _ _ _ h k => h.trans (k.mono h.size)) (fun _ _ _ _ h _ => h) ?_ ?_
 ·refine ⟨?_, trivial⟩
  ·intro a w' hx hu hd K hK; exact Flow.run1 rfl (Flow.r_assign rfl rfl) (hK _ _ (Below.refl _ _) rfl)
 ·intro vs W1 hb1 hT
  have v0 := Flow.eqn (hT 0 (by decide))
  simp only [Flow.putsT, v0, Act.put, List.setIfInBounds_toArray, List.set_cons_zero, List.set_cons_succ]
  clear hT v0
  have HB1 := Aside0.mk hb1
  clear hb1
  go_upto_region 1 with fail
  refine Flow.seqT (E := fun u v => Below u.heap.size u v) [(some 3, [])] (fun iQ vQ wQ => match iQ with | 0 => vQ = (.slice none 0 0) | _ => True) rfl (by kernel_rfl) (Below.refl _ _) (fun _ _ _ h k => h.trans (k.mono h.size)) (fun _ _ _ _ h _ => h) ?_ ?_
  ·refine ⟨?_, trivial⟩
   ·intro a w' hx hu hd K hK; exact Flow.run1 rfl (Flow.r_assign rfl rfl) (hK _ _ (Below.refl _ _) rfl)
  ·intro vs W2 hb2 hT
   have v0 := Flow.eqn (hT 0 (by decide))
   simp only [Flow.putsT, v0, Act.put, List.setIfInBounds_toArray, List.set_cons_zero, List.set_cons_succ]
   clear hT v0
   have HB2 := Aside0.mk (below_step HB1.out hb2)
   clear hb2
   go_upto_region 2 with fail
   refine Flow.seqT (E := fun u v => Below u.heap.size u v) [(some 6, []), (some 7, [0]), (some 8, [])] (fun iQ vQ wQ => match iQ with | 0 => vQ = (.slice A n c) | 1 => vQ = (.int .i64 n) | 2 => vQ = (.int .i64 0) | _ => True) rfl (by kernel_rfl) (Below.refl _ _) (fun _ _ _ h k => h.trans (k.mono h.size)) (fun _ _ _ _ h _ => h) ?_ ?_
   ·refine ⟨?_, ?_, ?_, trivial⟩
    ·intro a w' hx hu hd K hK; have e0 : a.tmps.getD 0 undef = (.slice A n c) := hu 0 rfl; exact Flow.run1 rfl (Flow.r_move rfl e0) (hK _ _ (Below.refl _ _) rfl)
    ·intro a w' hx hu hd K hK; have e6 := Flow.got (hd 0 rfl) 6 rfl; exact Flow.run1 rfl (lenL Tryd.underlying43 rfl e6) (hK _ _ (Below.refl _ _) rfl)
    ·intro a w' hx hu hd K hK; exact Flow.run1 rfl (Flow.r_move rfl rfl) (hK _ _ (Below.refl _ _) rfl)
   ·intro vs W3 hb3 hT
    have v0 := Flow.eqn (hT 0 (by decide))
    have v1 := Flow.eqn (hT 1 (by decide))
    have v2 := Flow.eqn (hT 2 (by decide))
    simp only [Flow.putsT, v0, v1, v2, Act.put, List.setIfInBounds_toArray, List.set_cons_zero, List.set_cons_succ]
    clear hT v0 v1 v2
    have HB3 := Aside0.mk (below_step HB2.out hb3)
    clear hb3
    go_wp2
    go_loopg [3, 8] n (fun g v3 v8 wr => ∃ k : Nat, k ≤ n ∧ Aside0 (g = n - k) ∧ v8 = .int .i64 k ∧ Aside0 (Below w.heap.size w wr) ∧ Aside0 (Kd.R (Kd.int .u8) 5 wr w.heap.size (fun _ => True) v3 (hexN (l.take k))))
    case atStart => exact ⟨0, Nat.zero_le _, ⟨rfl⟩, rfl, HB3, ⟨Kd.R_nil _ _ _ _ _⟩⟩
    case round =>
     clear HB3
     obtain ⟨k, hk, HGK, rfl, HBR, HR⟩ := hrel
     by_cases hlt : k < n
     ·have hlt2 : (k : Int) < n := by omega
      go_upto_region 3 with fail
      refine Flow.seqT (E := fun u v => Below u.heap.size u v) [(some 9, [])] (fun iQ vQ wQ => match iQ with | 0 => vQ = (.bool true) | _ => True) rfl (by kernel_rfl) (Below.refl _ _) (fun _ _ _ h k => h.trans (k.mono h.size)) (fun _ _ _ _ h _ => h) ?_ ?_
      ·refine ⟨?_, trivial⟩
       ·intro a w' hx hu hd K hK; have e8 : a.tmps.getD 8 undef = (.int .i64 k) := hu 8 rfl; have e7 : a.tmps.getD 7 undef = (.int .i64 n) := hu 7 rfl; exact Flow.run1 rfl (yes (lss rfl e8 e7) (decide_eq_true hlt2)) (hK _ _ (Below.refl _ _) rfl)
      ·intro vs W4 hb4 hT
       have v0 := Flow.eqn (hT 0 (by decide))
       simp only [Flow.putsT, v0, Act.put, List.setIfInBounds_toArray, List.set_cons_zero, List.set_cons_succ]
       clear hT v0
       have HB4 := Aside0.mk (below_step HBR.out hb4)
       have HR_4 := Aside0.mk (Kd.R_below HR.out hb4)
       clear hb4
       obtain ⟨ad, hA, hcell⟩ := elem8 HC.out k hlt
       subst hA
       have hx8 := B8_at HB8.out k
       have HSN := Aside0.mk (hexN_snoc l k (by rw [HN.out]; exact hlt))
       obtain ⟨x, hx⟩ : ∃ q, l.getD k 0 = q := ⟨_, rfl⟩
       rw [hx] at HSN hcell hx8
       clear hx
       go_upto_region 4 with fail
       refine Flow.seqT (E := fun u v => Below u.heap.size u v) [(some 10, []), (some 11, [0]), (some 5, [1, 0, 1])] (fun iQ vQ wQ => match iQ with | 0 => vQ = (.pointer (some (ad.add (k * 1)))) | 1 => vQ = (.int .u8 x) | 2 => vQ = (.int .u8 x) | _ => True) rfl (by kernel_rfl) (Below.refl _ _) (fun _ _ _ h k => h.trans (k.mono h.size)) (fun _ _ _ _ h _ => h) ?_ ?_
       ·refine ⟨?_, ?_, ?_, trivial⟩
        ·intro a w' hx hu hd K hK; have e6 : a.tmps.getD 6 undef = (.slice (some ad) n c) := hu 6 rfl; have e8 : a.tmps.getD 8 undef = (.int .i64 k) := hu 8 rfl; exact Flow.run1 rfl (ix Tryd.underlying43 size5 rfl e6 e8 hlt) (hK _ _ (Below.refl _ _) rfl)
        ·intro a w' hx hu hd K hK; have e10 := Flow.got (hd 0 rfl) 10 rfl; exact Flow.run1 rfl (ld rfl e10 (pw_cell_below (below_step HB4.out hx) hcell) Tryd.underlying5 rfl) (hK _ _ (Below.refl _ _) rfl)
        ·intro a w' hx hu hd K hK; have e11 := Flow.got (hd 1 rfl) 11 rfl; exact Flow.run1 rfl (Flow.r_assign rfl e11) (hK _ _ (Below.refl _ _) rfl)
       ·intro vs W5 hb5 hT
        have v0 := Flow.eqn (hT 0 (by decide))
        have v1 := Flow.eqn (hT 1 (by decide))
        have v2 := Flow.eqn (hT 2 (by decide))
        simp only [Flow.putsT, v0, v1, v2, Act.put, List.setIfInBounds_toArray, List.set_cons_zero, List.set_cons_succ]
        clear hT v0 v1 v2
        have HB5 := Aside0.mk (below_step HB4.out hb5)
        have HR_5 := Aside0.mk (Kd.R_below HR_4.out hb5)
        clear hb5
        go_upto_region 5 with fail
        refine Flow.flowT_head (E := fun u v => Below u.heap.size u v) 8 [(some 12, []), (some 13, []), (some 14, [1]), (some 15, [2]), (some 16, []), (some 17, [4]), (some 18, [5]), (some 19, [3, 6]), (some 20, [0, 7]), (some 3, [8, 8, 0, 1, 2, 3, 4, 5, 6, 7, 8])] (fun iQ vQ wQ => match iQ with | 0 => vQ = u3 | 1 => vQ = (.int .u8 x) | 2 => vQ = (.int .u8 (x / 16)) | 3 => vQ = (.int .u8 (bt HD (x / 16))) | 4 => vQ = (.int .u8 x) | 5 => vQ = (.int .u8 (x % 16)) | 6 => vQ = (.int .u8 (bt HD (x % 16))) | 7 => SliceAt #[.int .u8 (bt HD (x / 16)), .int .u8 (bt HD (x % 16))] 5 2 w.heap.size vQ wQ | _ => True) rfl (by kernel_rfl) (by kernel_rfl) (by kernel_rfl) ((Below.refl _ _).drew) (fun _ _ _ h k => h.trans (k.mono h.size)) (fun iQ vQ w1Q w2Q hQ hEQ => match iQ, hQ with | 0, hQ => hQ | 1, hQ => hQ | 2, hQ => hQ | 3, hQ => hQ | 4, hQ => hQ | 5, hQ => hQ | 6, hQ => hQ | 7, hQ => slice_below hQ hEQ | _ + 8, _ => trivial) ?_ ?_
        ·refine ⟨?_, ?_, ?_, ?_, ?_, ?_, ?_, ?_, trivial⟩
         ·intro a w' hx hu hd K hK; have e3 : a.tmps.getD 3 undef = u3 := hu 3 rfl; exact Flow.run1 rfl (Flow.r_move rfl e3) (hK _ _ (Below.refl _ _) rfl)
         ·intro a w' hx hu hd K hK; have e5 : a.tmps.getD 5 undef = (.int .u8 x) := hu 5 rfl; exact Flow.run1 rfl (Flow.r_move rfl e5) (hK _ _ (Below.refl _ _) rfl)
         ·intro a w' hx hu hd K hK; have e13 := Flow.got (hd 1 (by decide)) 13 rfl; exact Flow.run1 rfl (shr4 rfl e13 rfl) (hK _ _ (Below.refl _ _) rfl)
         ·intro a w' hx hu hd K hK; have e14 := Flow.got (hd 2 (by decide)) 14 rfl; exact Flow.run1 rfl (strix (s := HD) Tryd.underlying9 rfl rfl e14 (by omega) (show x / 16 < 16 by omega)) (hK _ _ (Below.refl _ _) rfl)
         ·intro a w' hx hu hd K hK; have e5 : a.tmps.getD 5 undef = (.int .u8 x) := hu 5 rfl; exact Flow.run1 rfl (Flow.r_move rfl e5) (hK _ _ (Below.refl _ _) rfl)
         ·intro a w' hx hu hd K hK; have e16 := Flow.got (hd 4 (by decide)) 16 rfl; exact Flow.run1 rfl (and15' x hx8.1 hx8.2 ▸ Ev.and15 rfl e16 rfl) (hK _ _ (Below.refl _ _) rfl)
         ·intro a w' hx hu hd K hK; have e17 := Flow.got (hd 5 (by decide)) 17 rfl; exact Flow.run1 rfl (strix (s := HD) Tryd.underlying9 rfl rfl e17 (by omega) (show x % 16 < 16 by omega)) (hK _ _ (Below.refl _ _) rfl)
         ·intro a w' hx hu hd K hK; have e15 := Flow.got (hd 3 (by decide)) 15 rfl; have e18 := Flow.got (hd 6 (by decide)) 18 rfl; exact Flow.run1 rfl (row2_43 rfl e15 e18) (hK _ _ (below_alloc (Below.refl _ _) _) (slice_new (Nat.le_trans (HB5.out).size (hx : Below _ _ _).size)))
        ·intro vs W6 hb6 hT
         have v0 := Flow.eqn (hT 0 (by decide))
         have v1 := Flow.eqn (hT 1 (by decide))
         have v2 := Flow.eqn (hT 2 (by decide))
         have v3 := Flow.eqn (hT 3 (by decide))
         have v4 := Flow.eqn (hT 4 (by decide))
         have v5 := Flow.eqn (hT 5 (by decide))
         have v6 := Flow.eqn (hT 6 (by decide))
         obtain ⟨g6_7, v7, hge7, hk7⟩ : SliceAt _ _ _ _ _ _ := hT 7 (by decide)
         have Kg6_7 := Aside0.mk hk7
         have Gg6_7 := Aside0.mk hge7
         clear hk7 hge7
         simp only [Flow.putsT, v0, v1, v2, v3, v4, v5, v6, v7, Act.put, List.setIfInBounds_toArray, List.set_cons_zero, List.set_cons_succ, List.drop_succ_cons, List.drop_zero, List.take_succ_cons, List.take_zero]
         clear hT v0 v1 v2 v3 v4 v5 v6 v7
         have HB6 := Aside0.mk (below_step HB5.out hb6)
         have HR_6 := Aside0.mk (Kd.R_below HR_5.out hb6)
         clear hb6
         have hl7 : (hexN (l.take k)).length ≤ 2000000 := (by rw [hexN_len, List.length_take]; omega)
         refine eapp (Value.int .u8) 0 (w0 := w) (base := w.heap.size) (ys := [bt HD (x / 16), bt HD (x % 16)]) rfl rfl Tryd.underlying43 info5 rfl (by decide) rfl rfl HR_6.out Kg6_7.out HB6.out HB6.out.size ?_ ?_
         ·show ((hexN (l.take k)).length + 2) * 1 ≤ _; omega
         intro v7 W7 hr7 hb7 _
         have HR_7 := Aside0.mk hr7
         have HB7 := Aside0.mk hb7
         clear hr7 hb7
         simp only [Act.put, List.setIfInBounds_toArray, List.set_cons_zero, List.set_cons_succ]
         refine Flow.seqL (E := fun u v => Below u.heap.size u v) 9 1 [(some 12, []), (some 13, []), (some 14, [1]), (some 15, [2]), (some 16, []), (some 17, [4]), (some 18, [5]), (some 19, [3, 6]), (some 20, [0, 7]), (some 3, [8, 8, 0, 1, 2, 3, 4, 5, 6, 7, 8])] (fun iQ vQ wQ => match iQ with | 9 => vQ = v7 | _ => True) rfl (by decide) (by kernel_rfl) (Below.refl _ _) (fun _ _ _ h k => h.trans (k.mono h.size)) (fun _ _ _ _ h _ => h) ?_ ?_
         ·refine ⟨?_, trivial⟩
          ·intro a w' hx hu hd K hK; have e20 : a.tmps.getD 20 undef = v7 := hu 20 rfl; exact Flow.run1 rfl (Flow.r_assign rfl e20) (hK _ _ (Below.refl _ _) rfl)
         ·intro vs W8 hb8 hT
          have v9 := Flow.eqn (hT 9 (by decide) (by decide))
          simp only [Flow.putsT, v9, Act.put, List.setIfInBounds_toArray, List.set_cons_zero, List.set_cons_succ, List.drop_succ_cons, List.drop_zero, List.take_succ_cons, List.take_zero]
          clear hT v9
          have HB8 := Aside0.mk (below_step HB7.out hb8)
          have HR_8 := Aside0.mk (Kd.R_below HR_7.out hb8)
          clear hb8
          go_wp2
          go_roundg (n - (k + 1))
          case measure => have := HGK.out; omega
          case rel => exact ⟨k + 1, by omega, ⟨rfl⟩, by go_num, HB8, ⟨by rw [← HSN.out]; exact HR_8.out⟩⟩
     ·obtain rfl : k = n := by omega
      have hlt2 : ¬ ((k : Nat) : Int) < k := by omega
      go_upto_region 3 with fail
      refine Flow.seqT (E := fun u v => Below u.heap.size u v) [(some 9, [])] (fun iQ vQ wQ => match iQ with | 0 => vQ = (.bool false) | _ => True) rfl (by kernel_rfl) (Below.refl _ _) (fun _ _ _ h k => h.trans (k.mono h.size)) (fun _ _ _ _ h _ => h) ?_ ?_
      ·refine ⟨?_, trivial⟩
       ·intro a w' hx hu hd K hK; have e8 : a.tmps.getD 8 undef = (.int .i64 k) := hu 8 rfl; have e7 : a.tmps.getD 7 undef = (.int .i64 k) := hu 7 rfl; exact Flow.run1 rfl (no (lss rfl e8 e7) (decide_eq_false hlt2)) (hK _ _ (Below.refl _ _) rfl)
      ·intro vs W9 hb9 hT
       have v0 := Flow.eqn (hT 0 (by decide))
       simp only [Flow.putsT, v0, Act.put, List.setIfInBounds_toArray, List.set_cons_zero, List.set_cons_succ]
       clear hT v0
       have HB9 := Aside0.mk (below_step HBR.out hb9)
       have HR_9 := Aside0.mk (Kd.R_below HR.out hb9)
       clear hb9
       have HTL := Aside0.mk (show hexN (l.take k) = hexN l by rw [List.take_of_length_le (by rw [HN.out]; exact Nat.le_refl _)])
       obtain ⟨A3, c3, hv3, _, hC3⟩ := Kd.R_reads HR_9.out
       rw [HTL.out] at hv3 hC3
       subst hv3
       have HC3 := Aside0.mk hC3
       clear hC3 HR_9 HR
       go_upto_region 7 with fail
       refine Flow.seqT (E := fun u v => Below u.heap.size u v) [(some 22, []), (some 23, [0]), (some 2, [1, 0, 1])] (fun iQ vQ wQ => match iQ with | 0 => vQ = (.slice A3 ((hexN l).length) c3) | 1 => vQ = (.string (hexB l)) | 2 => vQ = (.string (hexB l)) | _ => True) rfl (by kernel_rfl) (Below.refl _ _) (fun _ _ _ h k => h.trans (k.mono h.size)) (fun _ _ _ _ h _ => h) ?_ ?_
       ·refine ⟨?_, ?_, ?_, trivial⟩
        ·intro a w' hx hu hd K hK; have e3 : a.tmps.getD 3 undef = (.slice A3 ((hexN l).length) c3) := hu 3 rfl; exact Flow.run1 rfl (Flow.r_move rfl e3) (hK _ _ (Below.refl _ _) rfl)
        ·intro a w' hx hu hd K hK; have e22 := Flow.got (hd 0 rfl) 22 rfl; exact Flow.run1 rfl (cvs rfl e22 (Kd.C_string Tryd.underlying43 Tryd.underlying5 Tryd.underlying9 (Kd.C_below HC3.out hx))) (hK _ _ (Below.refl _ _) rfl)
        ·intro a w' hx hu hd K hK; have e23 := Flow.got (hd 1 rfl) 23 rfl; exact Flow.run1 rfl (Flow.r_assign rfl e23) (hK _ _ (Below.refl _ _) rfl)
       ·intro vs W10 hb10 hT
        have v0 := Flow.eqn (hT 0 (by decide))
        have v1 := Flow.eqn (hT 1 (by decide))
        have v2 := Flow.eqn (hT 2 (by decide))
        simp only [Flow.putsT, v0, v1, v2, Act.put, List.setIfInBounds_toArray, List.set_cons_zero, List.set_cons_succ]
        clear hT v0 v1 v2
        have HB10 := Aside0.mk (below_step HB9.out hb10)
        have HC3_10 := Aside0.mk (Kd.C_below HC3.out hb10)
        clear hb10
        go_wp2
        go_ret
        exact ⟨rfl, HB10.out⟩
set_option maxHeartbeats 4000000 in
set_option maxRecDepth 100000 in
theorem rhex_c (l : List Int) (A : Option Addr) (c : Nat) (hb : B8 l) (hn : l.length ≤ 1000000) (w : World) (hC : Kd.C (Kd.int .u8) w A l.length l) : Calls Tryd.prog 26 #[.slice A l.length c] w fun e w' => e = .returned (.string (hexB l)) ∧ Below w.heap.size w w' := by
 obtain ⟨n, HN⟩ : ∃ n, Aside0 (l.length = n) := ⟨_, ⟨rfl⟩⟩
 have HB8 := Aside0.mk hb
 rw [HN.out] at hn hC ⊢
 have HC := Aside0.mk hC
 clear hC hb
 go_enter Tryd.func26, Tryd.ntmps26
 go_upto_region 0 with fail
 refine Flow.seqT (E := fun u v => Below u.heap.size u v) [(some 2, [])] (fun iQ vQ wQ => match iQ with | 0 => vQ = (.string ⟨#[]⟩) | _ => True) rfl (by kernel_rfl) (Below.refl _ _) (fun _ _ _ h k => h.trans (k.mono h.size)) (fun _ _ _ _ h _ => h) ?_ ?_
 ·refine ⟨?_, trivial⟩
  ·intro a w' hx hu hd K hK; exact Flow.run1 rfl (Flow.r_assign rfl rfl) (hK _ _ (Below.refl _ _) rfl)
 ·intro vs W1 hb1 hT
  have v0 := Flow.eqn (hT 0 (by decide))
  simp only [Flow.putsT, v0, Act.put, List.setIfInBounds_toArray, List.set_cons_zero, List.set_cons_succ]
  clear hT v0
  have HB1 := Aside0.mk hb1
  clear hb1
  go_upto_region 1 with fail
  refine Flow.seqT (E := fun u v => Below u.heap.size u v) [(some 3, [])] (fun iQ vQ wQ => match iQ with | 0 => vQ = (.string ⟨#[]⟩) | _ => True) rfl (by kernel_rfl) (Below.refl _ _) (fun _ _ _ h k => h.trans (k.mono h.size)) (fun _ _ _ _ h _ => h) ?_ ?_
  ·refine ⟨?_, trivial⟩
   ·intro a w' hx hu hd K hK; exact Flow.run1 rfl (Flow.r_assign rfl rfl) (hK _ _ (Below.refl _ _) rfl)
  ·intro vs W2 hb2 hT
   have v0 := Flow.eqn (hT 0 (by decide))
   simp only [Flow.putsT, v0, Act.put, List.setIfInBounds_toArray, List.set_cons_zero, List.set_cons_succ]
   clear hT v0
   have HB2 := Aside0.mk (below_step HB1.out hb2)
   clear hb2
   go_upto_region 2 with fail
   refine Flow.seqT (E := fun u v => Below u.heap.size u v) [(some 4, [])] (fun iQ vQ wQ => match iQ with | 0 => vQ = (.int .i64 0) | _ => True) rfl (by kernel_rfl) (Below.refl _ _) (fun _ _ _ h k => h.trans (k.mono h.size)) (fun _ _ _ _ h _ => h) ?_ ?_
   ·refine ⟨?_, trivial⟩
    ·intro a w' hx hu hd K hK; exact Flow.run1 rfl (Flow.r_assign rfl rfl) (hK _ _ (Below.refl _ _) rfl)
   ·intro vs W3 hb3 hT
    have v0 := Flow.eqn (hT 0 (by decide))
    simp only [Flow.putsT, v0, Act.put, List.setIfInBounds_toArray, List.set_cons_zero, List.set_cons_succ]
    clear hT v0
    have HB3 := Aside0.mk (below_step HB2.out hb3)
    clear hb3
    go_wp2
    go_loopg [3, 4] n (fun g v3 v4 wr => ∃ (k : Nat) (t : ByteArray), k ≤ n ∧ Aside0 (g = n - k) ∧ v4 = .int .i64 k ∧ Aside0 (Below w.heap.size w wr) ∧ v3 = .string t ∧ Aside0 (t = hexB (l.take k)))
    case atStart => exact ⟨0, _, Nat.zero_le _, ⟨rfl⟩, rfl, HB3, rfl, ⟨rfl⟩⟩
    case round =>
     clear HB3
     obtain ⟨k, t, hk, HGK, rfl, HBR, rfl, HT⟩ := hrel
     have zt : t.size ≤ 2000000 := by rw [HT.out, hexB_size, List.length_take]; omega
     by_cases hlt : k < n
     ·have hlt2 : (k : Int) < n := by omega
      go_upto_region 3 with fail
      refine Flow.seqT (E := fun u v => Below u.heap.size u v) [(some 7, []), (some 8, []), (some 9, [1]), (some 10, [0, 2])] (fun iQ vQ wQ => match iQ with | 0 => vQ = (.int .i64 k) | 1 => vQ = (.slice A n c) | 2 => vQ = (.int .i64 n) | 3 => vQ = (.bool true) | _ => True) rfl (by kernel_rfl) (Below.refl _ _) (fun _ _ _ h k => h.trans (k.mono h.size)) (fun _ _ _ _ h _ => h) ?_ ?_
      ·refine ⟨?_, ?_, ?_, ?_, trivial⟩
       ·intro a w' hx hu hd K hK; have e4 : a.tmps.getD 4 undef = (.int .i64 k) := hu 4 rfl; exact Flow.run1 rfl (Flow.r_move rfl e4) (hK _ _ (Below.refl _ _) rfl)
       ·intro a w' hx hu hd K hK; have e0 : a.tmps.getD 0 undef = (.slice A n c) := hu 0 rfl; exact Flow.run1 rfl (Flow.r_move rfl e0) (hK _ _ (Below.refl _ _) rfl)
       ·intro a w' hx hu hd K hK; have e8 := Flow.got (hd 1 rfl) 8 rfl; exact Flow.run1 rfl (lenL Tryd.underlying43 rfl e8) (hK _ _ (Below.refl _ _) rfl)
       ·intro a w' hx hu hd K hK; have e7 := Flow.got (hd 0 rfl) 7 rfl; have e9 := Flow.got (hd 2 rfl) 9 rfl; exact Flow.run1 rfl (yes (lss rfl e7 e9) (decide_eq_true hlt2)) (hK _ _ (Below.refl _ _) rfl)
      ·intro vs W4 hb4 hT
       have v0 := Flow.eqn (hT 0 (by decide))
       have v1 := Flow.eqn (hT 1 (by decide))
       have v2 := Flow.eqn (hT 2 (by decide))
       have v3 := Flow.eqn (hT 3 (by decide))
       simp only [Flow.putsT, v0, v1, v2, v3, Act.put, List.setIfInBounds_toArray, List.set_cons_zero, List.set_cons_succ]
       clear hT v0 v1 v2 v3
       have HB4 := Aside0.mk (below_step HBR.out hb4)
       clear hb4
       obtain ⟨ad, hA, hcell⟩ := elem8 HC.out k hlt
       subst hA
       have hx8 := B8_at HB8.out k
       have HSN := Aside0.mk (hexB_snoc l HB8.out k (by rw [HN.out]; exact hlt))
       obtain ⟨x, hx⟩ : ∃ q, l.getD k 0 = q := ⟨_, rfl⟩
       rw [hx] at HSN hcell hx8
       clear hx
       have zq := cut_size (x / 16) (by omega) (by omega)
       have zm := cut_size (x % 16) (by omega) (by omega)
       go_upto_region 5 with fail
       refine Flow.flowT (E := fun u v => Below u.heap.size u v) [(some 13, []), (some 14, []), (some 15, [0, 1]), (some 16, [2]), (some 17, [3]), (some 18, [4]), (some 19, []), (some 20, []), (some 21, [6, 7]), (some 22, [8]), (some 23, [9]), (some 24, [10]), (some 5, [5, 0, 1, 2, 3, 4, 5]), (some 6, [11, 12, 0, 1, 2, 3, 4, 5, 6, 7, 8, 9, 10, 11, 12])] (fun iQ vQ wQ => match iQ with | 0 => vQ = (.slice (some ad) n c) | 1 => vQ = (.int .i64 k) | 2 => vQ = (.pointer (some (ad.add (k * 1)))) | 3 => vQ = (.int .u8 x) | 4 => vQ = (.int .i64 x) | 5 => vQ = (.int .i64 (x / 16)) | 6 => vQ = (.slice (some ad) n c) | 7 => vQ = (.int .i64 k) | 8 => vQ = (.pointer (some (ad.add (k * 1)))) | 9 => vQ = (.int .u8 x) | 10 => vQ = (.int .i64 x) | 11 => vQ = (.int .i64 (x % 16)) | 12 => vQ = (.int .i64 (x / 16)) | 13 => vQ = (.int .i64 (x % 16)) | _ => True) rfl (by kernel_rfl) (by kernel_rfl) (by kernel_rfl) ((Below.refl _ _).drew) (fun _ _ _ h k => h.trans (k.mono h.size)) (fun _ _ _ _ h _ => h) ?_ ?_
       ·refine ⟨?_, ?_, ?_, ?_, ?_, ?_, ?_, ?_, ?_, ?_, ?_, ?_, ?_, ?_, trivial⟩
        ·intro a w' hx hu hd K hK; have e0 : a.tmps.getD 0 undef = (.slice (some ad) n c) := hu 0 rfl; exact Flow.run1 rfl (Flow.r_move rfl e0) (hK _ _ (Below.refl _ _) rfl)
        ·intro a w' hx hu hd K hK; have e4 : a.tmps.getD 4 undef = (.int .i64 k) := hu 4 rfl; exact Flow.run1 rfl (Flow.r_move rfl e4) (hK _ _ (Below.refl _ _) rfl)
        ·intro a w' hx hu hd K hK; have e13 := Flow.got (hd 0 (by decide)) 13 rfl; have e14 := Flow.got (hd 1 (by decide)) 14 rfl; exact Flow.run1 rfl (ix Tryd.underlying43 size5 rfl e13 e14 hlt) (hK _ _ (Below.refl _ _) rfl)
        ·intro a w' hx hu hd K hK; have e15 := Flow.got (hd 2 (by decide)) 15 rfl; exact Flow.run1 rfl (ld rfl e15 (pw_cell_below (below_step HB4.out hx) hcell) Tryd.underlying5 rfl) (hK _ _ (Below.refl _ _) rfl)
        ·intro a w' hx hu hd K hK; have e16 := Flow.got (hd 3 (by decide)) 16 rfl; exact Flow.run1 rfl (cv8 Tryd.underlying5 Tryd.underlying3 rfl e16 hx8.1 hx8.2) (hK _ _ (Below.refl _ _) rfl)
        ·intro a w' hx hu hd K hK; have e17 := Flow.got (hd 4 (by decide)) 17 rfl; exact Flow.run1 rfl (quo16 rfl e17 rfl hx8.1 hx8.2) (hK _ _ (Below.refl _ _) rfl)
        ·intro a w' hx hu hd K hK; have e0 : a.tmps.getD 0 undef = (.slice (some ad) n c) := hu 0 rfl; exact Flow.run1 rfl (Flow.r_move rfl e0) (hK _ _ (Below.refl _ _) rfl)
        ·intro a w' hx hu hd K hK; have e4 : a.tmps.getD 4 undef = (.int .i64 k) := hu 4 rfl; exact Flow.run1 rfl (Flow.r_move rfl e4) (hK _ _ (Below.refl _ _) rfl)
        ·intro a w' hx hu hd K hK; have e19 := Flow.got (hd 6 (by decide)) 19 rfl; have e20 := Flow.got (hd 7 (by decide)) 20 rfl; exact Flow.run1 rfl (ix Tryd.underlying43 size5 rfl e19 e20 hlt) (hK _ _ (Below.refl _ _) rfl)
        ·intro a w' hx hu hd K hK; have e21 := Flow.got (hd 8 (by decide)) 21 rfl; exact Flow.run1 rfl (ld rfl e21 (pw_cell_below (below_step HB4.out hx) hcell) Tryd.underlying5 rfl) (hK _ _ (Below.refl _ _) rfl)
        ·intro a w' hx hu hd K hK; have e22 := Flow.got (hd 9 (by decide)) 22 rfl; exact Flow.run1 rfl (cv8 Tryd.underlying5 Tryd.underlying3 rfl e22 hx8.1 hx8.2) (hK _ _ (Below.refl _ _) rfl)
        ·intro a w' hx hu hd K hK; have e23 := Flow.got (hd 10 (by decide)) 23 rfl; exact Flow.run1 rfl (rem16 rfl e23 rfl hx8.1) (hK _ _ (Below.refl _ _) rfl)
        ·intro a w' hx hu hd K hK; have e18 := Flow.got (hd 5 (by decide)) 18 rfl; exact Flow.run1 rfl (Flow.r_assign rfl e18) (hK _ _ (Below.refl _ _) rfl)
        ·intro a w' hx hu hd K hK; have e24 := Flow.got (hd 11 (by decide)) 24 rfl; exact Flow.run1 rfl (Flow.r_assign rfl e24) (hK _ _ (Below.refl _ _) rfl)
       ·intro vs W5 hb5 hT
        have v0 := Flow.eqn (hT 0 (by decide))
        have v1 := Flow.eqn (hT 1 (by decide))
        have v2 := Flow.eqn (hT 2 (by decide))
        have v3 := Flow.eqn (hT 3 (by decide))
        have v4 := Flow.eqn (hT 4 (by decide))
        have v5 := Flow.eqn (hT 5 (by decide))
        have v6 := Flow.eqn (hT 6 (by decide))
        have v7 := Flow.eqn (hT 7 (by decide))
        have v8 := Flow.eqn (hT 8 (by decide))
        have v9 := Flow.eqn (hT 9 (by decide))
        have v10 := Flow.eqn (hT 10 (by decide))
        have v11 := Flow.eqn (hT 11 (by decide))
        have v12 := Flow.eqn (hT 12 (by decide))
        have v13 := Flow.eqn (hT 13 (by decide))
        simp only [Flow.putsT, v0, v1, v2, v3, v4, v5, v6, v7, v8, v9, v10, v11, v12, v13, Act.put, List.setIfInBounds_toArray, List.set_cons_zero, List.set_cons_succ]
        clear hT v0 v1 v2 v3 v4 v5 v6 v7 v8 v9 v10 v11 v12 v13
        have HB5 := Aside0.mk (below_step HB4.out hb5)
        clear hb5
        go_upto_region 6 with fail
        obtain ⟨t6_5, Ht6_5⟩ : ∃ tQ, Aside0 (t ++ (HD.extract (x / 16).toNat (x / 16 + 1).toNat) = tQ) := ⟨_, ⟨rfl⟩⟩
        have zt6_5 : t6_5.size ≤ 2000001 := Ht6_5.out ▸ szapp zt zq (by decide)
        obtain ⟨t6_10, Ht6_10⟩ : ∃ tQ, Aside0 (t6_5 ++ (HD.extract (x % 16).toNat (x % 16 + 1).toNat) = tQ) := ⟨_, ⟨rfl⟩⟩
        have zt6_10 : t6_10.size ≤ 2000002 := Ht6_10.out ▸ szapp zt6_5 zm (by decide)
        refine Flow.flowT (E := fun u v => Below u.heap.size u v) [(some 25, []), (some 26, []), (some 27, []), (some 28, [2]), (some 29, [1, 3]), (some 30, [0, 4]), (some 31, []), (some 32, []), (some 33, [7]), (some 34, [6, 8]), (some 35, [5, 9]), (some 3, [10, 0, 1, 2, 3, 4, 5, 6, 7, 8, 9, 10])] (fun iQ vQ wQ => match iQ with | 0 => vQ = (.string t) | 1 => vQ = (.int .i64 (x / 16)) | 2 => vQ = (.int .i64 (x / 16)) | 3 => vQ = (.int .i64 (x / 16 + 1)) | 4 => vQ = (.string (HD.extract (x / 16).toNat (x / 16 + 1).toNat)) | 5 => vQ = (.string t6_5) | 6 => vQ = (.int .i64 (x % 16)) | 7 => vQ = (.int .i64 (x % 16)) | 8 => vQ = (.int .i64 (x % 16 + 1)) | 9 => vQ = (.string (HD.extract (x % 16).toNat (x % 16 + 1).toNat)) | 10 => vQ = (.string t6_10) | 11 => vQ = (.string t6_10) | _ => True) rfl (by kernel_rfl) (by kernel_rfl) (by kernel_rfl) ((Below.refl _ _).drew) (fun _ _ _ h k => h.trans (k.mono h.size)) (fun _ _ _ _ h _ => h) ?_ ?_
        ·refine ⟨?_, ?_, ?_, ?_, ?_, ?_, ?_, ?_, ?_, ?_, ?_, ?_, trivial⟩
         ·intro a w' hx hu hd K hK; have e3 : a.tmps.getD 3 undef = (.string t) := hu 3 rfl; exact Flow.run1 rfl (Flow.r_move rfl e3) (hK _ _ (Below.refl _ _) rfl)
         ·intro a w' hx hu hd K hK; have e5 : a.tmps.getD 5 undef = (.int .i64 (x / 16)) := hu 5 rfl; exact Flow.run1 rfl (Flow.r_move rfl e5) (hK _ _ (Below.refl _ _) rfl)
         ·intro a w' hx hu hd K hK; have e5 : a.tmps.getD 5 undef = (.int .i64 (x / 16)) := hu 5 rfl; exact Flow.run1 rfl (Flow.r_move rfl e5) (hK _ _ (Below.refl _ _) rfl)
         ·intro a w' hx hu hd K hK; have e27 := Flow.got (hd 2 (by decide)) 27 rfl; exact Flow.run1 rfl (add rfl e27 rfl (by omega) (by omega)) (hK _ _ (Below.refl _ _) rfl)
         ·intro a w' hx hu hd K hK; have e26 := Flow.got (hd 1 (by decide)) 26 rfl; have e28 := Flow.got (hd 3 (by decide)) 28 rfl; exact Flow.run1 rfl (cut1 (s := HD) Tryd.underlying9 rfl rfl e26 e28 (by omega) (by omega) (show x / 16 + 1 ≤ 16 by omega)) (hK _ _ (Below.refl _ _) rfl)
         ·intro a w' hx hu hd K hK; have e25 := Flow.got (hd 0 (by decide)) 25 rfl; have e29 := Flow.got (hd 4 (by decide)) 29 rfl; exact Flow.run1 rfl (Ht6_5.out ▸ cat rfl e25 e29 zt zq (by decide)) (hK _ _ (Below.refl _ _) rfl)
         ·intro a w' hx hu hd K hK; have e6 : a.tmps.getD 6 undef = (.int .i64 (x % 16)) := hu 6 rfl; exact Flow.run1 rfl (Flow.r_move rfl e6) (hK _ _ (Below.refl _ _) rfl)
         ·intro a w' hx hu hd K hK; have e6 : a.tmps.getD 6 undef = (.int .i64 (x % 16)) := hu 6 rfl; exact Flow.run1 rfl (Flow.r_move rfl e6) (hK _ _ (Below.refl _ _) rfl)
         ·intro a w' hx hu hd K hK; have e32 := Flow.got (hd 7 (by decide)) 32 rfl; exact Flow.run1 rfl (add rfl e32 rfl (by omega) (by omega)) (hK _ _ (Below.refl _ _) rfl)
         ·intro a w' hx hu hd K hK; have e31 := Flow.got (hd 6 (by decide)) 31 rfl; have e33 := Flow.got (hd 8 (by decide)) 33 rfl; exact Flow.run1 rfl (cut1 (s := HD) Tryd.underlying9 rfl rfl e31 e33 (by omega) (by omega) (show x % 16 + 1 ≤ 16 by omega)) (hK _ _ (Below.refl _ _) rfl)
         ·intro a w' hx hu hd K hK; have e30 := Flow.got (hd 5 (by decide)) 30 rfl; have e34 := Flow.got (hd 9 (by decide)) 34 rfl; exact Flow.run1 rfl (Ht6_10.out ▸ cat rfl e30 e34 zt6_5 zm (by decide)) (hK _ _ (Below.refl _ _) rfl)
         ·intro a w' hx hu hd K hK; have e35 := Flow.got (hd 10 (by decide)) 35 rfl; exact Flow.run1 rfl (Flow.r_assign rfl e35) (hK _ _ (Below.refl _ _) rfl)
        ·intro vs W6 hb6 hT
         have v0 := Flow.eqn (hT 0 (by decide))
         have v1 := Flow.eqn (hT 1 (by decide))
         have v2 := Flow.eqn (hT 2 (by decide))
         have v3 := Flow.eqn (hT 3 (by decide))
         have v4 := Flow.eqn (hT 4 (by decide))
         have v5 := Flow.eqn (hT 5 (by decide))
         have v6 := Flow.eqn (hT 6 (by decide))
         have v7 := Flow.eqn (hT 7 (by decide))
         have v8 := Flow.eqn (hT 8 (by decide))
         have v9 := Flow.eqn (hT 9 (by decide))
         have v10 := Flow.eqn (hT 10 (by decide))
         have v11 := Flow.eqn (hT 11 (by decide))
         simp only [Flow.putsT, v0, v1, v2, v3, v4, v5, v6, v7, v8, v9, v10, v11, Act.put, List.setIfInBounds_toArray, List.set_cons_zero, List.set_cons_succ]
         clear hT v0 v1 v2 v3 v4 v5 v6 v7 v8 v9 v10 v11
         have HB6 := Aside0.mk (below_step HB5.out hb6)
         clear hb6
         go_wp2
         go_roundg (n - (k + 1))
         case measure => have := HGK.out; omega
         case rel => exact ⟨k + 1, _, by omega, ⟨rfl⟩, by go_num, HB6, rfl, ⟨by rw [← HSN.out, ← Ht6_10.out, ← Ht6_5.out, HT.out]⟩⟩
     ·obtain rfl : k = n := by omega
      have hlt2 : ¬ ((k : Nat) : Int) < k := by omega
      go_upto_region 3 with fail
      refine Flow.seqT (E := fun u v => Below u.heap.size u v) [(some 7, []), (some 8, []), (some 9, [1]), (some 10, [0, 2])] (fun iQ vQ wQ => match iQ with | 0 => vQ = (.int .i64 k) | 1 => vQ = (.slice A k c) | 2 => vQ = (.int .i64 k) | 3 => vQ = (.bool false) | _ => True) rfl (by kernel_rfl) (Below.refl _ _) (fun _ _ _ h k => h.trans (k.mono h.size)) (fun _ _ _ _ h _ => h) ?_ ?_
      ·refine ⟨?_, ?_, ?_, ?_, trivial⟩
       ·intro a w' hx hu hd K hK; have e4 : a.tmps.getD 4 undef = (.int .i64 k) := hu 4 rfl; exact Flow.run1 rfl (Flow.r_move rfl e4) (hK _ _ (Below.refl _ _) rfl)
       ·intro a w' hx hu hd K hK; have e0 : a.tmps.getD 0 undef = (.slice A k c) := hu 0 rfl; exact Flow.run1 rfl (Flow.r_move rfl e0) (hK _ _ (Below.refl _ _) rfl)
       ·intro a w' hx hu hd K hK; have e8 := Flow.got (hd 1 rfl) 8 rfl; exact Flow.run1 rfl (lenL Tryd.underlying43 rfl e8) (hK _ _ (Below.refl _ _) rfl)
       ·intro a w' hx hu hd K hK; have e7 := Flow.got (hd 0 rfl) 7 rfl; have e9 := Flow.got (hd 2 rfl) 9 rfl; exact Flow.run1 rfl (no (lss rfl e7 e9) (decide_eq_false hlt2)) (hK _ _ (Below.refl _ _) rfl)
      ·intro vs W7 hb7 hT
       have v0 := Flow.eqn (hT 0 (by decide))
       have v1 := Flow.eqn (hT 1 (by decide))
       have v2 := Flow.eqn (hT 2 (by decide))
       have v3 := Flow.eqn (hT 3 (by decide))
       simp only [Flow.putsT, v0, v1, v2, v3, Act.put, List.setIfInBounds_toArray, List.set_cons_zero, List.set_cons_succ]
       clear hT v0 v1 v2 v3
       have HB7 := Aside0.mk (below_step HBR.out hb7)
       clear hb7
       go_upto_region 7 with fail
       refine Flow.seqT (E := fun u v => Below u.heap.size u v) [(some 36, []), (some 2, [0, 0])] (fun iQ vQ wQ => match iQ with | 0 => vQ = (.string t) | 1 => vQ = (.string t) | _ => True) rfl (by kernel_rfl) (Below.refl _ _) (fun _ _ _ h k => h.trans (k.mono h.size)) (fun _ _ _ _ h _ => h) ?_ ?_
       ·refine ⟨?_, ?_, trivial⟩
        ·intro a w' hx hu hd K hK; have e3 : a.tmps.getD 3 undef = (.string t) := hu 3 rfl; exact Flow.run1 rfl (Flow.r_move rfl e3) (hK _ _ (Below.refl _ _) rfl)
        ·intro a w' hx hu hd K hK; have e36 := Flow.got (hd 0 rfl) 36 rfl; exact Flow.run1 rfl (Flow.r_assign rfl e36) (hK _ _ (Below.refl _ _) rfl)
       ·intro vs W8 hb8 hT
        have v0 := Flow.eqn (hT 0 (by decide))
        have v1 := Flow.eqn (hT 1 (by decide))
        simp only [Flow.putsT, v0, v1, Act.put, List.setIfInBounds_toArray, List.set_cons_zero, List.set_cons_succ]
        clear hT v0 v1
        have HB8 := Aside0.mk (below_step HB7.out hb8)
        clear hb8
        go_wp2
        go_ret
        exact ⟨by rw [HT.out, List.take_of_length_le (by rw [HN.out]; exact Nat.le_refl _)]; rfl, HB8.out⟩
end Go.Proofs.YtlhmpmmblnbmbaaDoor.Rep
