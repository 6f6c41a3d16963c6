/- The row of ConsoleParses: behind any call the law told true, and all that was handed in reads as it did. Written by openrow.py, this work's own program. -/
import Derived.Test.YtlhmpmmblnbmbaaDoorConRef
import Derived.Test.YtlhmpmmblnbmbaaDoorFlow2
import Derived.Lib.Split
import Derived.Lib.SplitLaws
import Derived.Lib.IndexBytes
import Derived.Test.YtlhmpmmblnbmbaaDoorConPall
import Derived.Test.YtlhmpmmblnbmbaaDoorShelfSplit
import Derived.Test.YtlhmpmmblnbmbaaDoorConParse3
import Derived.Handed
import Derived.SizedLaws
import Derived.LaidMore
import Derived.Test.YtlhmpmmblnbmbaaDoorOpen
import Derived.Test.YtlhmpmmblnbmbaaDoorWMore
import Derived.Test.YtlhmpmmblnbmbaaDoorRows
import Derived.WalkKit
import Derived.ProofKit
import Derived.OpenShut
import Derived.ShutString
import Derived.ChangeOld
import Derived.Below
import Derived.Lay
import Derived.Stop.LaidErr
import Derived.SevenTiedAt
import Derived.Test.YtlhmpmmblnbmbaaDoorCards
import Derived.Test.YtlhmpmmblnbmbaaDoorTie
set_option linter.unusedVariables false
set_option linter.unusedSimpArgs false
namespace Go.Proofs.YtlhmpmmblnbmbaaDoor.Con
open Go.Lib Go.RowKit Go.Proofs.YtlhmpmmblnbmbaaDoor.Ev Go.Proofs.YtlhmpmmblnbmbaaDoor.Ke Go.Proofs.YtlhmpmmblnbmbaaDoor.Cells Go.Proofs.YtlhmpmmblnbmbaaDoor.PConsoleParses Go.Proofs.YtlhmpmmblnbmbaaDoorW.PrintWords Go.Proofs.YtlhmpmmblnbmbaaDoorW.PrintLast Go.Proofs.YtlhmpmmblnbmbaaDoorW.PrintMore WordsPlain NumberPlain
theorem store_run {P : Program} {o : Oper} {a : Act} {w : World} {ty : TypeId} {x y : Operand} {g : Nat} {c : List Value} {cs0 : Array Value} (ho : o.op = .store ty x y) (hx : a.eval x = .pointer (some ⟨g, 0, none⟩)) (hy : a.eval y = .agg c.toArray) (hg : w.heap[g]? = some (.cells cs0 ty (0, 0))) (hs : cs0.size = c.length) (hi : (P.info? ty).map (·.size) = some c.length) (h1 : c.all (·.oneCell') = true) :
    ∃ w1, (execOp a.eval o).run P w = .ok .skip w1 ∧ w1.heap[g]? = some (.cells c.toArray ty (0, 0)) ∧ (∀ k, k ≠ g → w1.heap[k]? = w.heap[k]?) ∧ ∀ B, B ≤ g → Below B w w1 := by
  have hrun := run_storeVar_mid (P := P) w g 0 ty c.toArray (fun j hj => by
    rw [Nat.zero_add, cell_of_row w g j _ _ _ hg]
    have hj' : j < cs0.size := by simpa [hs] using hj
    exact ⟨by simp [Array.getElem?_eq_getElem hj'], by simp [World.frozen?, hg]⟩) (by simpa using hi) (all_oneCell_toArray (fun v hv => List.all_eq_true.1 h1 v hv))
  obtain ⟨cur', hc1, hc2, hc3⟩ := setCells_row c 0 w cs0 hg (by omega)
  have e : cur' = c.toArray := by
    apply Array.toList_inj.1
    rw [hc3]; simp [List.drop_eq_nil_of_le, hs]
  subst e
  obtain ⟨s1, s2, s3, s4⟩ := setCells_same g c 0 w
  refine ⟨w.setCells g 0 c, ?_, hc1, fun k hk => setCells_far c 0 k hk, fun B hB => ⟨s1, s2, s3, by rw [s4]; exact Nat.le_refl _, fun k hk => setCells_far c 0 k (by omega)⟩⟩
  unfold execOp
  simp only [ho, hx, hy, Instr.storeAt, Instr.sureAddr, Sem.run_bind, Sem.run_pure, Result.andThen_ok]
  rw [hrun]
  simp
theorem store_k {P : Program} {o : Oper} {a : Act} {w : World} {K : Act → World → Prop} {Q : Exit → Act → World → Prop} {ty : TypeId} {x y : Operand} {g : Nat} {c : List Value} {cs0 : Array Value} (ho : o.op = .store ty x y) (hx : a.eval x = .pointer (some ⟨g, 0, none⟩)) (hy : a.eval y = .agg c.toArray) (hg : w.heap[g]? = some (.cells cs0 ty (0, 0))) (hs : cs0.size = c.length) (hi : (P.info? ty).map (·.size) = some c.length) (h1 : c.all (·.oneCell') = true)
    (h : ∀ w1, w1.heap[g]? = some (.cells c.toArray ty (0, 0)) → (∀ k, k ≠ g → w1.heap[k]? = w.heap[k]?) → (∀ B, B ≤ g → Below B w w1) → K (a.put o.dst undef) w1) : o.wp P a w K Q := by
  obtain ⟨w1, hr, k1, hf, hB⟩ := store_run ho hx hy hg hs hi h1
  exact Flow.skip_run hr (h w1 k1 hf hB)
theorem alloc_run {P : Program} {o : Oper} {a : Act} {w : World} {t : TypeId} {z : Value} (ho : o.op = .alloc t) (hz : (P.info? t).map (·.zero) = some (some z)) : (execOp a.eval o).run P w = .ok (.value (.pointer (some ⟨w.heap.size, 0, none⟩))) (w.alloc (.cells z.cells t (0, 0))) := by
  obtain ⟨i, hi, hzz⟩ := Option.map_eq_some_iff.1 hz
  unfold execOp
  simp only [ho]
  simp [zeroValue, typeInfo, hi, hzz, newVar, newRow, Sem.run_bind, go_sem]
def GoodAt (x : A10) (W0 : World) (g : Nat) (w : World) : Prop := ∃ A c, w.heap[g]? = some (.cells #[.int .i64 x.cmd, .int .i64 x.zone, .int .i64 x.at_, .int .i64 x.n, .slice A x.data.length c, .bool x.fua] 54 (0, 0)) ∧ (Kd.int .u8).C W0 A x.data.length x.data
def Shape (g : Nat) (w : World) : Prop := ∃ cs : Array Value, w.heap[g]? = some (.cells cs 54 (0, 0)) ∧ cs.size = 6
def Es (x : A10) (W0 : World) (base : Nat) (u v : World) : Prop := Below base u v ∧ (∀ g, GoodAt x W0 g u → GoodAt x W0 g v) ∧ ∀ g, Shape g u → Shape g v
def PtrTo (v : Value) (g : Nat) : Prop := v = .pointer (some ⟨g, 0, none⟩)
theorem Es.refl {x : A10} {W0 : World} {b : Nat} {w : World} : Es x W0 b w w := ⟨Below.refl _ _, fun _ h => h, fun _ h => h⟩
theorem Es.drew {x : A10} {W0 : World} {b : Nat} {w : World} : Es x W0 b w w.drew := ⟨(Below.refl _ _).drew, fun _ h => h, fun _ h => h⟩
theorem Es.trans {x : A10} {W0 : World} {b : Nat} {u v w : World} (h : Es x W0 b u v) (k : Es x W0 b v w) : Es x W0 b u w := ⟨h.1.trans k.1, fun g hg => k.2.1 g (h.2.1 g hg), fun g hg => k.2.2 g (h.2.2 g hg)⟩
theorem Es.alloc {x : A10} {W0 : World} {b : Nat} {w : World} (hb : b ≤ w.heap.size) (O : Obj) : Es x W0 b w (w.alloc O) := by
  have hs : ∀ {g : Nat} {C : Obj}, w.heap[g]? = some C → (w.alloc O).heap[g]? = some C := fun h => blk_alloc h O
  exact ⟨(Below.refl _ _).alloc hb O, fun g ⟨A, c, h1, h2⟩ => ⟨A, c, hs h1, h2⟩, fun g ⟨cs, h1, h2⟩ => ⟨cs, hs h1, h2⟩⟩
theorem Es.put {x : A10} {W0 : World} {b : Nat} {w w1 : World} {g : Nat} {A : Option Addr} {c : Nat} (hb : b ≤ g) (k : w1.heap[g]? = some (.cells #[.int .i64 x.cmd, .int .i64 x.zone, .int .i64 x.at_, .int .i64 x.n, .slice A x.data.length c, .bool x.fua] 54 (0, 0))) (hC : (Kd.int .u8).C W0 A x.data.length x.data) (hf : ∀ k, k ≠ g → w1.heap[k]? = w.heap[k]?) (hB : ∀ B, B ≤ g → Below B w w1) : Es x W0 b w w1 ∧ GoodAt x W0 g w1 := by
  have hg : GoodAt x W0 g w1 := ⟨A, c, k, hC⟩
  refine ⟨⟨hB b hb, fun q hq => ?_, fun q hq => ?_⟩, hg⟩
  · by_cases e : q = g
    · rw [e]; exact hg
    · obtain ⟨A2, c2, h1, h2⟩ := hq
      exact ⟨A2, c2, (hf q e).trans h1, h2⟩
  · by_cases e : q = g
    · rw [e]; exact ⟨_, k, rfl⟩
    · obtain ⟨cs, h1, h2⟩ := hq
      exact ⟨cs, (hf q e).trans h1, h2⟩
set_option maxHeartbeats 4000000 in
set_option maxRecDepth 100000 in
theorem same_c (x : A10) (A0 B0 A1 B1 : Option Addr) (c0 d0 c1 d1 : Nat) (w : World) (h0 : (Kd.int .u8).C w A0 x.data.length x.data) (h1 : (Kd.int .u8).C w B0 x.keep.length x.keep) (h2 : (Kd.int .u8).C w A1 x.data.length x.data) (h3 : (Kd.int .u8).C w B1 x.keep.length x.keep) : Calls Tryd.prog 32 #[.agg #[.int .i64 x.kind, .int .i64 x.cmd, .int .i64 x.zone, .int .i64 x.at_, .int .i64 x.n, .slice A0 x.data.length c0, .bool x.fua, .int .i64 x.m, .int .i64 x.k, .slice B0 x.keep.length d0], .agg #[.int .i64 x.kind, .int .i64 x.cmd, .int .i64 x.zone, .int .i64 x.at_, .int .i64 x.n, .slice A1 x.data.length c1, .bool x.fua, .int .i64 x.m, .int .i64 x.k, .slice B1 x.keep.length d1]] w fun e w' => e = .returned (.bool true) ∧ Below w.heap.size w w' := by
  have HD0 := Aside0.mk h0
  have HK0 := Aside0.mk h1
  have HD1 := Aside0.mk h2
  have HK1 := Aside0.mk h3
  clear h0 h1 h2 h3
  go_enter Tryd.func32, Tryd.ntmps32
  go_upto_region 0 with fail
  refine wp_region_lit ?_
  refine ebox (v := (.agg #[.int .i64 x.kind, .int .i64 x.cmd, .int .i64 x.zone, .int .i64 x.at_, .int .i64 x.n, .slice A0 x.data.length c0, .bool x.fua, .int .i64 x.m, .int .i64 x.k, .slice B0 x.keep.length d0])) rfl rfl rfl ?_
  intro g1 hg1 W1 hk1 hb1
  have Kg1 := Aside0.mk hk1
  have HB1 := Aside0.mk hb1
  clear hb1
  have Gg1 := Aside0.mk (show w.heap.size ≤ g1 by rw [hg1]; exact Nat.le_refl _)
  clear hg1 hk1
  simp only [Act.put, List.setIfInBounds_toArray, List.set_cons_zero, List.set_cons_succ]
  refine ebox (v := (.agg #[.int .i64 x.kind, .int .i64 x.cmd, .int .i64 x.zone, .int .i64 x.at_, .int .i64 x.n, .slice A1 x.data.length c1, .bool x.fua, .int .i64 x.m, .int .i64 x.k, .slice B1 x.keep.length d1])) rfl rfl rfl ?_
  intro g2 hg2 W2 hk2 hb2
  have Kg2 := Aside0.mk hk2
  have Ng2_g1 := Aside0.mk (show g1 ≠ g2 by have := (Array.getElem?_eq_some_iff.1 Kg1.out).1; omega)
  have Ng1_g2 := Aside0.mk (Ne.symm Ng2_g1.out)
  have HB2 := Aside0.mk (below_step HB1.out hb2)
  have Kg1_2 := Aside0.mk (blk_below Kg1.out hb2)
  clear hb2
  have Gg2 := Aside0.mk (show w.heap.size ≤ g2 by rw [hg2]; exact HB1.out.size)
  clear hg2 hk2
  simp only [Act.put, List.setIfInBounds_toArray, List.set_cons_zero, List.set_cons_succ]
  refine Flow.seqL (E := fun u v => Below u.heap.size u v) 2 1 [(some 2, []), (some 3, []), (some 4, [])] (fun iQ vQ wQ => match iQ with | 2 => vQ = (.bool false) | _ => True) rfl (by decide) (by kernel_rfl) (Below.refl _ _) (fun _ _ _ h k => h.trans (k.mono h.size)) (fun _ _ _ _ h _ => h) ?_ ?_
  · refine ⟨?_, trivial⟩
    · intro a w' hx hu hd K hK; exact Flow.run1 rfl (Flow.r_assign rfl rfl) (hK _ _ (Below.refl _ _) rfl)
  intro vs W3 hb3 hT
  have v2 := Flow.eqn (hT 2 (by decide) (by decide))
  simp only [Flow.putsT, v2, Act.put, List.setIfInBounds_toArray, List.set_cons_zero, List.set_cons_succ, List.drop_succ_cons, List.drop_zero, List.take_succ_cons, List.take_zero]
  clear hT v2
  have HB3 := Aside0.mk (below_step HB2.out hb3)
  have Kg1_2_3 := Aside0.mk (blk_below Kg1_2.out hb3)
  have Kg2_3 := Aside0.mk (blk_below Kg2.out hb3)
  clear hb3
  go_upto_region 1 with fail
  refine Flow.seqT (E := fun u v => Below u.heap.size u v) [(some 7, []), (some 8, [0]), (some 9, []), (some 10, [2]), (some 11, [1, 3]), (some 12, [4]), (some 13, [5]), (some 14, [6, 5]), (some 15, [5]), (some 16, [8, 5]), (some 17, [7, 9, 5]), (some 18, [5, 10]), (some 19, [11, 5]), (some 20, [12]), (some 21, [13, 12]), (some 22, [12]), (some 23, [15, 12]), (some 24, [14, 16, 12]), (some 25, [12, 17]), (some 26, [18, 12]), (some 27, [19]), (some 28, [20, 19]), (some 29, [21, 19]), (some 30, [19]), (some 31, [23, 19]), (some 32, [24, 19]), (some 33, [22, 25, 19]), (some 34, [19, 26])] (fun iQ vQ wQ => match iQ with | 0 => vQ = (.pointer (some ⟨g1, 0, none⟩)) | 1 => vQ = (.int .i64 x.kind) | 2 => vQ = (.pointer (some ⟨g2, 0, none⟩)) | 3 => vQ = (.int .i64 x.kind) | 4 => vQ = (.bool false) | 5 => vQ = (.bool false) | 6 => vQ = (.pointer (some ⟨g1, 7, none⟩)) | 7 => vQ = (.int .i64 x.m) | 8 => vQ = (.pointer (some ⟨g2, 7, none⟩)) | 9 => vQ = (.int .i64 x.m) | 10 => vQ = (.bool false) | 11 => vQ = (.bool false) | 12 => vQ = (.bool false) | 13 => vQ = (.pointer (some ⟨g1, 8, none⟩)) | 14 => vQ = (.int .i64 x.k) | 15 => vQ = (.pointer (some ⟨g2, 8, none⟩)) | 16 => vQ = (.int .i64 x.k) | 17 => vQ = (.bool false) | 18 => vQ = (.bool false) | 19 => vQ = (.bool false) | 20 => vQ = (.pointer (some ⟨g1, 9, none⟩)) | 21 => vQ = (.slice B0 x.keep.length d0) | 22 => vQ = (.string (strOfNums x.keep)) | 23 => vQ = (.pointer (some ⟨g2, 9, none⟩)) | 24 => vQ = (.slice B1 x.keep.length d1) | 25 => vQ = (.string (strOfNums x.keep)) | 26 => vQ = (.bool false) | 27 => vQ = (.bool false) | _ => True) rfl (by kernel_rfl) (Below.refl _ _) (fun _ _ _ h k => h.trans (k.mono h.size)) (fun _ _ _ _ h _ => h) ?_ ?_
  · refine ⟨?_, ?_, ?_, ?_, ?_, ?_, ?_, ?_, ?_, ?_, ?_, ?_, ?_, ?_, ?_, ?_, ?_, ?_, ?_, ?_, ?_, ?_, ?_, ?_, ?_, ?_, ?_, ?_, trivial⟩
    · intro a w' hx hu hd K hK; have e2 : a.tmps.getD 2 undef = (.pointer (some ⟨g1, 0, none⟩)) := hu 2 rfl; exact Flow.run1 rfl (fa rfl e2 (fa56_0 _ _ _)) (hK _ _ (Below.refl _ _) rfl)
    · intro a w' hx hu hd K hK; have e7 := Flow.got (hd 0 rfl) 7 rfl; exact Flow.run1 rfl (ld rfl e7 ((blk_cell (blk_below Kg1_2_3.out hx) 0).trans rfl) Tryd.underlying3 rfl) (hK _ _ (Below.refl _ _) rfl)
    · intro a w' hx hu hd K hK; have e3 : a.tmps.getD 3 undef = (.pointer (some ⟨g2, 0, none⟩)) := hu 3 rfl; exact Flow.run1 rfl (fa rfl e3 (fa56_0 _ _ _)) (hK _ _ (Below.refl _ _) rfl)
    · intro a w' hx hu hd K hK; have e9 := Flow.got (hd 2 rfl) 9 rfl; exact Flow.run1 rfl (ld rfl e9 ((blk_cell (blk_below Kg2_3.out hx) 0).trans rfl) Tryd.underlying3 rfl) (hK _ _ (Below.refl _ _) rfl)
    · intro a w' hx hu hd K hK; have e8 := Flow.got (hd 1 rfl) 8 rfl; have e10 := Flow.got (hd 3 rfl) 10 rfl; exact Flow.run1 rfl (no (neq rfl e8 e10) (bne_eq_false_iff_eq.2 rfl)) (hK _ _ (Below.refl _ _) rfl)
    · intro a w' hx hu hd K hK; have e11 := Flow.got (hd 4 rfl) 11 rfl; exact Flow.run1 rfl (Flow.r_move rfl e11) (hK _ _ (Below.refl _ _) rfl)
    · intro a w' hx hu hd K hK; have e2 : a.tmps.getD 2 undef = (.pointer (some ⟨g1, 0, none⟩)) := hu 2 rfl; have e12 := Flow.got (hd 5 rfl) 12 rfl; exact Flow.run1 (Flow.want_of (k := 12) rfl e12) (fa rfl e2 (fa56_2 _ _ _)) (hK _ _ (Below.refl _ _) rfl)
    · intro a w' hx hu hd K hK; have e13 := Flow.got (hd 6 rfl) 13 rfl; have e12 := Flow.got (hd 5 rfl) 12 rfl; exact Flow.run1 (Flow.want_of (k := 12) rfl e12) (ld rfl e13 ((blk_cell (blk_below Kg1_2_3.out hx) 7).trans rfl) Tryd.underlying3 rfl) (hK _ _ (Below.refl _ _) rfl)
    · intro a w' hx hu hd K hK; have e3 : a.tmps.getD 3 undef = (.pointer (some ⟨g2, 0, none⟩)) := hu 3 rfl; have e12 := Flow.got (hd 5 rfl) 12 rfl; exact Flow.run1 (Flow.want_of (k := 12) rfl e12) (fa rfl e3 (fa56_2 _ _ _)) (hK _ _ (Below.refl _ _) rfl)
    · intro a w' hx hu hd K hK; have e15 := Flow.got (hd 8 rfl) 15 rfl; have e12 := Flow.got (hd 5 rfl) 12 rfl; exact Flow.run1 (Flow.want_of (k := 12) rfl e12) (ld rfl e15 ((blk_cell (blk_below Kg2_3.out hx) 7).trans rfl) Tryd.underlying3 rfl) (hK _ _ (Below.refl _ _) rfl)
    · intro a w' hx hu hd K hK; have e14 := Flow.got (hd 7 rfl) 14 rfl; have e16 := Flow.got (hd 9 rfl) 16 rfl; have e12 := Flow.got (hd 5 rfl) 12 rfl; exact Flow.run1 (Flow.want_of (k := 12) rfl e12) (no (neq rfl e14 e16) (bne_eq_false_iff_eq.2 rfl)) (hK _ _ (Below.refl _ _) rfl)
    · intro a w' hx hu hd K hK; have e12 := Flow.got (hd 5 rfl) 12 rfl; have e17 := Flow.got (hd 10 rfl) 17 rfl; exact Flow.run1 rfl (Flow.r_pick rfl e12 e17) (hK _ _ (Below.refl _ _) rfl)
    · intro a w' hx hu hd K hK; have e18 := Flow.got (hd 11 rfl) 18 rfl; exact Flow.run1 rfl (Flow.r_move rfl e18) (hK _ _ (Below.refl _ _) rfl)
    · intro a w' hx hu hd K hK; have e2 : a.tmps.getD 2 undef = (.pointer (some ⟨g1, 0, none⟩)) := hu 2 rfl; have e19 := Flow.got (hd 12 rfl) 19 rfl; exact Flow.run1 (Flow.want_of (k := 19) rfl e19) (fa rfl e2 (fa56_3 _ _ _)) (hK _ _ (Below.refl _ _) rfl)
    · intro a w' hx hu hd K hK; have e20 := Flow.got (hd 13 rfl) 20 rfl; have e19 := Flow.got (hd 12 rfl) 19 rfl; exact Flow.run1 (Flow.want_of (k := 19) rfl e19) (ld rfl e20 ((blk_cell (blk_below Kg1_2_3.out hx) 8).trans rfl) Tryd.underlying3 rfl) (hK _ _ (Below.refl _ _) rfl)
    · intro a w' hx hu hd K hK; have e3 : a.tmps.getD 3 undef = (.pointer (some ⟨g2, 0, none⟩)) := hu 3 rfl; have e19 := Flow.got (hd 12 rfl) 19 rfl; exact Flow.run1 (Flow.want_of (k := 19) rfl e19) (fa rfl e3 (fa56_3 _ _ _)) (hK _ _ (Below.refl _ _) rfl)
    · intro a w' hx hu hd K hK; have e22 := Flow.got (hd 15 rfl) 22 rfl; have e19 := Flow.got (hd 12 rfl) 19 rfl; exact Flow.run1 (Flow.want_of (k := 19) rfl e19) (ld rfl e22 ((blk_cell (blk_below Kg2_3.out hx) 8).trans rfl) Tryd.underlying3 rfl) (hK _ _ (Below.refl _ _) rfl)
    · intro a w' hx hu hd K hK; have e21 := Flow.got (hd 14 rfl) 21 rfl; have e23 := Flow.got (hd 16 rfl) 23 rfl; have e19 := Flow.got (hd 12 rfl) 19 rfl; exact Flow.run1 (Flow.want_of (k := 19) rfl e19) (no (neq rfl e21 e23) (bne_eq_false_iff_eq.2 rfl)) (hK _ _ (Below.refl _ _) rfl)
    · intro a w' hx hu hd K hK; have e19 := Flow.got (hd 12 rfl) 19 rfl; have e24 := Flow.got (hd 17 rfl) 24 rfl; exact Flow.run1 rfl (Flow.r_pick rfl e19 e24) (hK _ _ (Below.refl _ _) rfl)
    · intro a w' hx hu hd K hK; have e25 := Flow.got (hd 18 rfl) 25 rfl; exact Flow.run1 rfl (Flow.r_move rfl e25) (hK _ _ (Below.refl _ _) rfl)
    · intro a w' hx hu hd K hK; have e2 : a.tmps.getD 2 undef = (.pointer (some ⟨g1, 0, none⟩)) := hu 2 rfl; have e26 := Flow.got (hd 19 rfl) 26 rfl; exact Flow.run1 (Flow.want_of (k := 26) rfl e26) (fa rfl e2 (fa56_4 _ _ _)) (hK _ _ (Below.refl _ _) rfl)
    · intro a w' hx hu hd K hK; have e27 := Flow.got (hd 20 rfl) 27 rfl; have e26 := Flow.got (hd 19 rfl) 26 rfl; exact Flow.run1 (Flow.want_of (k := 26) rfl e26) (ld rfl e27 ((blk_cell (blk_below Kg1_2_3.out hx) 9).trans rfl) Tryd.underlying43 rfl) (hK _ _ (Below.refl _ _) rfl)
    · intro a w' hx hu hd K hK; have e28 := Flow.got (hd 21 rfl) 28 rfl; have e26 := Flow.got (hd 19 rfl) 26 rfl; exact Flow.run1 (Flow.want_of (k := 26) rfl e26) (cvs rfl e28 (Kd.C_string Tryd.underlying43 Tryd.underlying5 Tryd.underlying9 (Kd.C_below HK0.out (below_step HB3.out hx)))) (hK _ _ (Below.refl _ _) rfl)
    · intro a w' hx hu hd K hK; have e3 : a.tmps.getD 3 undef = (.pointer (some ⟨g2, 0, none⟩)) := hu 3 rfl; have e26 := Flow.got (hd 19 rfl) 26 rfl; exact Flow.run1 (Flow.want_of (k := 26) rfl e26) (fa rfl e3 (fa56_4 _ _ _)) (hK _ _ (Below.refl _ _) rfl)
    · intro a w' hx hu hd K hK; have e30 := Flow.got (hd 23 rfl) 30 rfl; have e26 := Flow.got (hd 19 rfl) 26 rfl; exact Flow.run1 (Flow.want_of (k := 26) rfl e26) (ld rfl e30 ((blk_cell (blk_below Kg2_3.out hx) 9).trans rfl) Tryd.underlying43 rfl) (hK _ _ (Below.refl _ _) rfl)
    · intro a w' hx hu hd K hK; have e31 := Flow.got (hd 24 rfl) 31 rfl; have e26 := Flow.got (hd 19 rfl) 26 rfl; exact Flow.run1 (Flow.want_of (k := 26) rfl e26) (cvs rfl e31 (Kd.C_string Tryd.underlying43 Tryd.underlying5 Tryd.underlying9 (Kd.C_below HK1.out (below_step HB3.out hx)))) (hK _ _ (Below.refl _ _) rfl)
    · intro a w' hx hu hd K hK; have e29 := Flow.got (hd 22 rfl) 29 rfl; have e32 := Flow.got (hd 25 rfl) 32 rfl; have e26 := Flow.got (hd 19 rfl) 26 rfl; exact Flow.run1 (Flow.want_of (k := 26) rfl e26) (sneq rfl e29 e32 (bne_self_eq_false _)) (hK _ _ (Below.refl _ _) rfl)
    · intro a w' hx hu hd K hK; have e26 := Flow.got (hd 19 rfl) 26 rfl; have e33 := Flow.got (hd 26 rfl) 33 rfl; exact Flow.run1 rfl (Flow.r_pick rfl e26 e33) (hK _ _ (Below.refl _ _) rfl)
  intro vs W4 hb4 hT
  have v0 := Flow.eqn (hT 0 (by decide))
  have v1 := Flow.eqn (hT 1 (by decide))
  have v2 := Flow.eqn (hT 2 (by decide))
  have v3 := Flow.eqn (hT 3 (by decide))
  have v4 := Flow.eqn (hT 4 (by decide))
  have v5 := Flow.eqn (hT 5 (by decide))
  have v6 := Flow.eqn (hT 6 (by decide))
  have v7 := Flow.eqn (hT 7 (by decide))
  have v8 := Flow.eqn (hT 8 (by decide))
  have v9 := Flow.eqn (hT 9 (by decide))
  have v10 := Flow.eqn (hT 10 (by decide))
  have v11 := Flow.eqn (hT 11 (by decide))
  have v12 := Flow.eqn (hT 12 (by decide))
  have v13 := Flow.eqn (hT 13 (by decide))
  have v14 := Flow.eqn (hT 14 (by decide))
  have v15 := Flow.eqn (hT 15 (by decide))
  have v16 := Flow.eqn (hT 16 (by decide))
  have v17 := Flow.eqn (hT 17 (by decide))
  have v18 := Flow.eqn (hT 18 (by decide))
  have v19 := Flow.eqn (hT 19 (by decide))
  have v20 := Flow.eqn (hT 20 (by decide))
  have v21 := Flow.eqn (hT 21 (by decide))
  have v22 := Flow.eqn (hT 22 (by decide))
  have v23 := Flow.eqn (hT 23 (by decide))
  have v24 := Flow.eqn (hT 24 (by decide))
  have v25 := Flow.eqn (hT 25 (by decide))
  have v26 := Flow.eqn (hT 26 (by decide))
  have v27 := Flow.eqn (hT 27 (by decide))
  simp only [Flow.putsT, v0, v1, v2, v3, v4, v5, v6, v7, v8, v9, v10, v11, v12, v13, v14, v15, v16, v17, v18, v19, v20, v21, v22, v23, v24, v25, v26, v27, Act.put, List.setIfInBounds_toArray, List.set_cons_zero, List.set_cons_succ]
  clear hT v0 v1 v2 v3 v4 v5 v6 v7 v8 v9 v10 v11 v12 v13 v14 v15 v16 v17 v18 v19 v20 v21 v22 v23 v24 v25 v26 v27
  have HB4 := Aside0.mk (below_step HB3.out hb4)
  have Kg1_2_3_4 := Aside0.mk (blk_below Kg1_2_3.out hb4)
  have Kg2_3_4 := Aside0.mk (blk_below Kg2_3.out hb4)
  clear hb4
  go_upto_region 3 with fail
  refine Flow2.flowT (E := Es x w W4.heap.size) [(some 35, []), (some 36, [0]), (some 37, []), (some 38, [2]), (some 5, []), (some 6, []), (none, [4, 1, 0, 1, 4, 5]), (none, [5, 3, 6, 0, 1, 2, 3, 4, 5, 6])] (fun iQ vs wQ => match iQ with | 0 => vs 0 = .pointer (some ⟨g1, 1, none⟩) | 1 => vs 1 = .agg #[.int .i64 x.cmd, .int .i64 x.zone, .int .i64 x.at_, .int .i64 x.n, .slice A0 x.data.length c0, .bool x.fua] | 2 => vs 2 = .pointer (some ⟨g2, 1, none⟩) | 3 => vs 3 = .agg #[.int .i64 x.cmd, .int .i64 x.zone, .int .i64 x.at_, .int .i64 x.n, .slice A1 x.data.length c1, .bool x.fua] | 4 => ∃ g, PtrTo (vs 4) g ∧ W4.heap.size ≤ g ∧ Shape g wQ | 5 => ∃ g, PtrTo (vs 5) g ∧ W4.heap.size ≤ g ∧ Shape g wQ | 6 => ∃ g, PtrTo (vs 4) g ∧ GoodAt x w g wQ | 7 => ∃ g, PtrTo (vs 5) g ∧ GoodAt x w g wQ | _ => True) rfl (by kernel_rfl) (by kernel_rfl) (by kernel_rfl) Es.drew (fun _ _ _ h k => h.trans k) (fun iQ vs w1Q w2Q hQ hEQ => match iQ, hQ with | 0, hQ => hQ | 1, hQ => hQ | 2, hQ => hQ | 3, hQ => hQ | 4, hQ => (match hQ with | ⟨g, h1, h2, h3⟩ => ⟨g, h1, h2, hEQ.2.2 g h3⟩) | 5, hQ => (match hQ with | ⟨g, h1, h2, h3⟩ => ⟨g, h1, h2, hEQ.2.2 g h3⟩) | 6, hQ => (match hQ with | ⟨g, h1, h2⟩ => ⟨g, h1, hEQ.2.1 g h2⟩) | 7, hQ => (match hQ with | ⟨g, h1, h2⟩ => ⟨g, h1, hEQ.2.1 g h2⟩) | _ + 8, _ => trivial) ?_ ?_
  · refine ⟨?_, ?_, ?_, ?_, ?_, ?_, ?_, ?_, trivial⟩
    · intro a w' hx hu vs hd K hK; have e2 : a.tmps.getD 2 undef = .pointer (some ⟨g1, 0, none⟩) := hu 2 rfl; exact Flow.run1 rfl (fa rfl e2 (fa56_1 _ _ _)) (hK _ _ Es.refl (fun us e1 _ => e1))
    · intro a w' hx hu vs hd K hK; have e35 := ((hd 0 (by decide)).2 35 rfl).trans (hd 0 (by decide)).1; exact Flow.run1 rfl (ldrow (c := [.int .i64 x.cmd, .int .i64 x.zone, .int .i64 x.at_, .int .i64 x.n, .slice A0 x.data.length c0, .bool x.fua]) rfl e35 (lies_part (blk_below Kg1_2_3_4.out hx.1) rfl) Tryd.underlying54 rfl size54) (hK _ _ Es.refl (fun us e1 _ => e1))
    · intro a w' hx hu vs hd K hK; have e3 : a.tmps.getD 3 undef = .pointer (some ⟨g2, 0, none⟩) := hu 3 rfl; exact Flow.run1 rfl (fa rfl e3 (fa56_1 _ _ _)) (hK _ _ Es.refl (fun us e1 _ => e1))
    · intro a w' hx hu vs hd K hK; have e37 := ((hd 2 (by decide)).2 37 rfl).trans (hd 2 (by decide)).1; exact Flow.run1 rfl (ldrow (c := [.int .i64 x.cmd, .int .i64 x.zone, .int .i64 x.at_, .int .i64 x.n, .slice A1 x.data.length c1, .bool x.fua]) rfl e37 (lies_part (blk_below Kg2_3_4.out hx.1) rfl) Tryd.underlying54 rfl size54) (hK _ _ Es.refl (fun us e1 _ => e1))
    · intro a w' hx hu vs hd K hK; exact Flow.run1 rfl (alloc_run rfl zero54_is) (hK _ _ (Es.alloc hx.1.size _) (fun us e1 _ => ⟨_, e1, hx.1.size, ⟨_, blk_new _ _, rfl⟩⟩))
    · intro a w' hx hu vs hd K hK; exact Flow.run1 rfl (alloc_run rfl zero54_is) (hK _ _ (Es.alloc hx.1.size _) (fun us e1 _ => ⟨_, e1, hx.1.size, ⟨_, blk_new _ _, rfl⟩⟩))
    · intro a w' hx hu vs hd K hK; obtain ⟨g, hp, hb, cs, hcs, hsz⟩ := (hd 4 (by decide)).1; have e5 := ((hd 4 (by decide)).2 5 rfl).trans hp; have e36 := ((hd 1 (by decide)).2 36 rfl).trans (hd 1 (by decide)).1; refine Flow.want rfl (store_k (ty := 54) (c := [.int .i64 x.cmd, .int .i64 x.zone, .int .i64 x.at_, .int .i64 x.n, .slice A0 x.data.length c0, .bool x.fua]) rfl e5 e36 hcs hsz size54 rfl ?_); intro w1 k1 hf hB; obtain ⟨hE, hG⟩ := Es.put hb k1 HD0.out hf hB; exact hK undef _ hE (fun us _ e2 => ⟨g, (e2 4 (by decide)).trans hp, hG⟩)
    · intro a w' hx hu vs hd K hK; obtain ⟨g, hp, hb, cs, hcs, hsz⟩ := (hd 5 (by decide)).1; have e5 := ((hd 5 (by decide)).2 6 rfl).trans hp; have e36 := ((hd 3 (by decide)).2 38 rfl).trans (hd 3 (by decide)).1; refine Flow.want rfl (store_k (ty := 54) (c := [.int .i64 x.cmd, .int .i64 x.zone, .int .i64 x.at_, .int .i64 x.n, .slice A1 x.data.length c1, .bool x.fua]) rfl e5 e36 hcs hsz size54 rfl ?_); intro w1 k1 hf hB; obtain ⟨hE, hG⟩ := Es.put hb k1 HD1.out hf hB; exact hK undef _ hE (fun us _ e2 => ⟨g, (e2 5 (by decide)).trans hp, hG⟩)
  intro vs W900 hb900 hT
  have v0 := Flow.eqn (hT 0 (by decide))
  have v1 := Flow.eqn (hT 1 (by decide))
  have v2 := Flow.eqn (hT 2 (by decide))
  have v3 := Flow.eqn (hT 3 (by decide))
  obtain ⟨g5, v4, A5, c5, k5, hC5⟩ := hT 6 (by decide)
  obtain ⟨g6, v5, A6, c6, k6, hC6⟩ := hT 7 (by decide)
  unfold PtrTo at v4 v5
  have K5 := Aside0.mk k5
  have K6 := Aside0.mk k6
  have HC5 := Aside0.mk hC5
  have HC6 := Aside0.mk hC6
  simp only [Flow.putsT, v0, v1, v2, v3, v4, v5, Act.put, List.setIfInBounds_toArray, List.set_cons_zero, List.set_cons_succ]
  clear hT v0 v1 v2 v3 v4 v5 k5 k6 hC5 hC6
  have HB900 := Aside0.mk (below_step HB4.out hb900.1)
  clear hb900
  go_upto_region 4 with fail
  refine Flow.seqT (E := fun u v => Below u.heap.size u v) [(some 39, []), (some 40, [0]), (some 41, []), (some 42, [2]), (some 43, [1, 3]), (some 44, [4]), (some 45, [5]), (some 46, [6, 5]), (some 47, [5]), (some 48, [8, 5]), (some 49, [7, 9, 5]), (some 50, [5, 10]), (some 51, [11, 5]), (some 52, [12]), (some 53, [13, 12]), (some 54, [12]), (some 55, [15, 12]), (some 56, [14, 16, 12]), (some 57, [12, 17]), (some 58, [18, 12]), (some 59, [19]), (some 60, [20, 19]), (some 61, [19]), (some 62, [22, 19]), (some 63, [21, 23, 19]), (some 64, [19, 24]), (some 65, [25, 19]), (some 66, [26]), (some 67, [27, 26]), (some 68, [26]), (some 69, [29, 26]), (some 70, [28, 30, 26]), (some 71, [26, 31]), (some 72, [32, 26]), (some 73, [33]), (some 74, [34, 33]), (some 75, [35, 33]), (some 76, [33]), (some 77, [37, 33]), (some 78, [38, 33]), (some 79, [36, 39, 33]), (some 80, [33, 40]), (some 4, [41, 33, 0, 1, 2, 3, 4, 5, 6, 7, 8, 9, 10, 11, 12, 13, 14, 15, 16, 17, 18, 19, 20, 21, 22, 23, 24, 25, 26, 27, 28, 29, 30, 31, 32, 33, 34, 35, 36, 37, 38, 39, 40, 41])] (fun iQ vQ wQ => match iQ with | 0 => vQ = (.pointer (some ⟨g5, 0, none⟩)) | 1 => vQ = (.int .i64 x.cmd) | 2 => vQ = (.pointer (some ⟨g6, 0, none⟩)) | 3 => vQ = (.int .i64 x.cmd) | 4 => vQ = (.bool true) | 5 => vQ = (.bool true) | 6 => vQ = (.pointer (some ⟨g5, 1, none⟩)) | 7 => vQ = (.int .i64 x.zone) | 8 => vQ = (.pointer (some ⟨g6, 1, none⟩)) | 9 => vQ = (.int .i64 x.zone) | 10 => vQ = (.bool true) | 11 => vQ = (.bool true) | 12 => vQ = (.bool true) | 13 => vQ = (.pointer (some ⟨g5, 2, none⟩)) | 14 => vQ = (.int .i64 x.at_) | 15 => vQ = (.pointer (some ⟨g6, 2, none⟩)) | 16 => vQ = (.int .i64 x.at_) | 17 => vQ = (.bool true) | 18 => vQ = (.bool true) | 19 => vQ = (.bool true) | 20 => vQ = (.pointer (some ⟨g5, 3, none⟩)) | 21 => vQ = (.int .i64 x.n) | 22 => vQ = (.pointer (some ⟨g6, 3, none⟩)) | 23 => vQ = (.int .i64 x.n) | 24 => vQ = (.bool true) | 25 => vQ = (.bool true) | 26 => vQ = (.bool true) | 27 => vQ = (.pointer (some ⟨g5, 5, none⟩)) | 28 => vQ = (.bool x.fua) | 29 => vQ = (.pointer (some ⟨g6, 5, none⟩)) | 30 => vQ = (.bool x.fua) | 31 => vQ = (.bool true) | 32 => vQ = (.bool true) | 33 => vQ = (.bool true) | 34 => vQ = (.pointer (some ⟨g5, 4, none⟩)) | 35 => vQ = (.slice A5 x.data.length c5) | 36 => vQ = (.string (strOfNums x.data)) | 37 => vQ = (.pointer (some ⟨g6, 4, none⟩)) | 38 => vQ = (.slice A6 x.data.length c6) | 39 => vQ = (.string (strOfNums x.data)) | 40 => vQ = (.bool true) | 41 => vQ = (.bool true) | 42 => vQ = (.bool true) | _ => True) rfl (by kernel_rfl) (Below.refl _ _) (fun _ _ _ h k => h.trans (k.mono h.size)) (fun _ _ _ _ h _ => h) ?_ ?_
  · refine ⟨?_, ?_, ?_, ?_, ?_, ?_, ?_, ?_, ?_, ?_, ?_, ?_, ?_, ?_, ?_, ?_, ?_, ?_, ?_, ?_, ?_, ?_, ?_, ?_, ?_, ?_, ?_, ?_, ?_, ?_, ?_, ?_, ?_, ?_, ?_, ?_, ?_, ?_, ?_, ?_, ?_, ?_, ?_, trivial⟩
    · intro a w' hx hu hd K hK; have e5 : a.tmps.getD 5 undef = (.pointer (some ⟨g5, 0, none⟩)) := hu 5 rfl; exact Flow.run1 rfl (fa rfl e5 (fa54_0 _ _ _)) (hK _ _ (Below.refl _ _) rfl)
    · intro a w' hx hu hd K hK; have e39 := Flow.got (hd 0 rfl) 39 rfl; exact Flow.run1 rfl (ld rfl e39 ((blk_cell (blk_below K5.out hx) 0).trans rfl) Tryd.underlying3 rfl) (hK _ _ (Below.refl _ _) rfl)
    · intro a w' hx hu hd K hK; have e6 : a.tmps.getD 6 undef = (.pointer (some ⟨g6, 0, none⟩)) := hu 6 rfl; exact Flow.run1 rfl (fa rfl e6 (fa54_0 _ _ _)) (hK _ _ (Below.refl _ _) rfl)
    · intro a w' hx hu hd K hK; have e41 := Flow.got (hd 2 rfl) 41 rfl; exact Flow.run1 rfl (ld rfl e41 ((blk_cell (blk_below K6.out hx) 0).trans rfl) Tryd.underlying3 rfl) (hK _ _ (Below.refl _ _) rfl)
    · intro a w' hx hu hd K hK; have e40 := Flow.got (hd 1 rfl) 40 rfl; have e42 := Flow.got (hd 3 rfl) 42 rfl; exact Flow.run1 rfl (yes (eql rfl e40 e42) (beq_iff_eq.2 rfl)) (hK _ _ (Below.refl _ _) rfl)
    · intro a w' hx hu hd K hK; have e43 := Flow.got (hd 4 rfl) 43 rfl; exact Flow.run1 rfl (Flow.r_move rfl e43) (hK _ _ (Below.refl _ _) rfl)
    · intro a w' hx hu hd K hK; have e5 : a.tmps.getD 5 undef = (.pointer (some ⟨g5, 0, none⟩)) := hu 5 rfl; have e44 := Flow.got (hd 5 rfl) 44 rfl; exact Flow.run1 (Flow.want_of (k := 44) rfl e44) (fa rfl e5 (fa54_1 _ _ _)) (hK _ _ (Below.refl _ _) rfl)
    · intro a w' hx hu hd K hK; have e45 := Flow.got (hd 6 rfl) 45 rfl; have e44 := Flow.got (hd 5 rfl) 44 rfl; exact Flow.run1 (Flow.want_of (k := 44) rfl e44) (ld rfl e45 ((blk_cell (blk_below K5.out hx) 1).trans rfl) Tryd.underlying3 rfl) (hK _ _ (Below.refl _ _) rfl)
    · intro a w' hx hu hd K hK; have e6 : a.tmps.getD 6 undef = (.pointer (some ⟨g6, 0, none⟩)) := hu 6 rfl; have e44 := Flow.got (hd 5 rfl) 44 rfl; exact Flow.run1 (Flow.want_of (k := 44) rfl e44) (fa rfl e6 (fa54_1 _ _ _)) (hK _ _ (Below.refl _ _) rfl)
    · intro a w' hx hu hd K hK; have e47 := Flow.got (hd 8 rfl) 47 rfl; have e44 := Flow.got (hd 5 rfl) 44 rfl; exact Flow.run1 (Flow.want_of (k := 44) rfl e44) (ld rfl e47 ((blk_cell (blk_below K6.out hx) 1).trans rfl) Tryd.underlying3 rfl) (hK _ _ (Below.refl _ _) rfl)
    · intro a w' hx hu hd K hK; have e46 := Flow.got (hd 7 rfl) 46 rfl; have e48 := Flow.got (hd 9 rfl) 48 rfl; have e44 := Flow.got (hd 5 rfl) 44 rfl; exact Flow.run1 (Flow.want_of (k := 44) rfl e44) (yes (eql rfl e46 e48) (beq_iff_eq.2 rfl)) (hK _ _ (Below.refl _ _) rfl)
    · intro a w' hx hu hd K hK; have e44 := Flow.got (hd 5 rfl) 44 rfl; have e49 := Flow.got (hd 10 rfl) 49 rfl; exact Flow.run1 rfl (Flow.r_pick rfl e44 e49) (hK _ _ (Below.refl _ _) rfl)
    · intro a w' hx hu hd K hK; have e50 := Flow.got (hd 11 rfl) 50 rfl; exact Flow.run1 rfl (Flow.r_move rfl e50) (hK _ _ (Below.refl _ _) rfl)
    · intro a w' hx hu hd K hK; have e5 : a.tmps.getD 5 undef = (.pointer (some ⟨g5, 0, none⟩)) := hu 5 rfl; have e51 := Flow.got (hd 12 rfl) 51 rfl; exact Flow.run1 (Flow.want_of (k := 51) rfl e51) (fa rfl e5 (fa54_2 _ _ _)) (hK _ _ (Below.refl _ _) rfl)
    · intro a w' hx hu hd K hK; have e52 := Flow.got (hd 13 rfl) 52 rfl; have e51 := Flow.got (hd 12 rfl) 51 rfl; exact Flow.run1 (Flow.want_of (k := 51) rfl e51) (ld rfl e52 ((blk_cell (blk_below K5.out hx) 2).trans rfl) Tryd.underlying3 rfl) (hK _ _ (Below.refl _ _) rfl)
    · intro a w' hx hu hd K hK; have e6 : a.tmps.getD 6 undef = (.pointer (some ⟨g6, 0, none⟩)) := hu 6 rfl; have e51 := Flow.got (hd 12 rfl) 51 rfl; exact Flow.run1 (Flow.want_of (k := 51) rfl e51) (fa rfl e6 (fa54_2 _ _ _)) (hK _ _ (Below.refl _ _) rfl)
    · intro a w' hx hu hd K hK; have e54 := Flow.got (hd 15 rfl) 54 rfl; have e51 := Flow.got (hd 12 rfl) 51 rfl; exact Flow.run1 (Flow.want_of (k := 51) rfl e51) (ld rfl e54 ((blk_cell (blk_below K6.out hx) 2).trans rfl) Tryd.underlying3 rfl) (hK _ _ (Below.refl _ _) rfl)
    · intro a w' hx hu hd K hK; have e53 := Flow.got (hd 14 rfl) 53 rfl; have e55 := Flow.got (hd 16 rfl) 55 rfl; have e51 := Flow.got (hd 12 rfl) 51 rfl; exact Flow.run1 (Flow.want_of (k := 51) rfl e51) (yes (eql rfl e53 e55) (beq_iff_eq.2 rfl)) (hK _ _ (Below.refl _ _) rfl)
    · intro a w' hx hu hd K hK; have e51 := Flow.got (hd 12 rfl) 51 rfl; have e56 := Flow.got (hd 17 rfl) 56 rfl; exact Flow.run1 rfl (Flow.r_pick rfl e51 e56) (hK _ _ (Below.refl _ _) rfl)
    · intro a w' hx hu hd K hK; have e57 := Flow.got (hd 18 rfl) 57 rfl; exact Flow.run1 rfl (Flow.r_move rfl e57) (hK _ _ (Below.refl _ _) rfl)
    · intro a w' hx hu hd K hK; have e5 : a.tmps.getD 5 undef = (.pointer (some ⟨g5, 0, none⟩)) := hu 5 rfl; have e58 := Flow.got (hd 19 rfl) 58 rfl; exact Flow.run1 (Flow.want_of (k := 58) rfl e58) (fa rfl e5 (fa54_3 _ _ _)) (hK _ _ (Below.refl _ _) rfl)
    · intro a w' hx hu hd K hK; have e59 := Flow.got (hd 20 rfl) 59 rfl; have e58 := Flow.got (hd 19 rfl) 58 rfl; exact Flow.run1 (Flow.want_of (k := 58) rfl e58) (ld rfl e59 ((blk_cell (blk_below K5.out hx) 3).trans rfl) Tryd.underlying3 rfl) (hK _ _ (Below.refl _ _) rfl)
    · intro a w' hx hu hd K hK; have e6 : a.tmps.getD 6 undef = (.pointer (some ⟨g6, 0, none⟩)) := hu 6 rfl; have e58 := Flow.got (hd 19 rfl) 58 rfl; exact Flow.run1 (Flow.want_of (k := 58) rfl e58) (fa rfl e6 (fa54_3 _ _ _)) (hK _ _ (Below.refl _ _) rfl)
    · intro a w' hx hu hd K hK; have e61 := Flow.got (hd 22 rfl) 61 rfl; have e58 := Flow.got (hd 19 rfl) 58 rfl; exact Flow.run1 (Flow.want_of (k := 58) rfl e58) (ld rfl e61 ((blk_cell (blk_below K6.out hx) 3).trans rfl) Tryd.underlying3 rfl) (hK _ _ (Below.refl _ _) rfl)
    · intro a w' hx hu hd K hK; have e60 := Flow.got (hd 21 rfl) 60 rfl; have e62 := Flow.got (hd 23 rfl) 62 rfl; have e58 := Flow.got (hd 19 rfl) 58 rfl; exact Flow.run1 (Flow.want_of (k := 58) rfl e58) (yes (eql rfl e60 e62) (beq_iff_eq.2 rfl)) (hK _ _ (Below.refl _ _) rfl)
    · intro a w' hx hu hd K hK; have e58 := Flow.got (hd 19 rfl) 58 rfl; have e63 := Flow.got (hd 24 rfl) 63 rfl; exact Flow.run1 rfl (Flow.r_pick rfl e58 e63) (hK _ _ (Below.refl _ _) rfl)
    · intro a w' hx hu hd K hK; have e64 := Flow.got (hd 25 rfl) 64 rfl; exact Flow.run1 rfl (Flow.r_move rfl e64) (hK _ _ (Below.refl _ _) rfl)
    · intro a w' hx hu hd K hK; have e5 : a.tmps.getD 5 undef = (.pointer (some ⟨g5, 0, none⟩)) := hu 5 rfl; have e65 := Flow.got (hd 26 rfl) 65 rfl; exact Flow.run1 (Flow.want_of (k := 65) rfl e65) (fa rfl e5 (fa54_5 _ _ _)) (hK _ _ (Below.refl _ _) rfl)
    · intro a w' hx hu hd K hK; have e66 := Flow.got (hd 27 rfl) 66 rfl; have e65 := Flow.got (hd 26 rfl) 65 rfl; exact Flow.run1 (Flow.want_of (k := 65) rfl e65) (ld rfl e66 ((blk_cell (blk_below K5.out hx) 5).trans rfl) Tryd.underlying4 rfl) (hK _ _ (Below.refl _ _) rfl)
    · intro a w' hx hu hd K hK; have e6 : a.tmps.getD 6 undef = (.pointer (some ⟨g6, 0, none⟩)) := hu 6 rfl; have e65 := Flow.got (hd 26 rfl) 65 rfl; exact Flow.run1 (Flow.want_of (k := 65) rfl e65) (fa rfl e6 (fa54_5 _ _ _)) (hK _ _ (Below.refl _ _) rfl)
    · intro a w' hx hu hd K hK; have e68 := Flow.got (hd 29 rfl) 68 rfl; have e65 := Flow.got (hd 26 rfl) 65 rfl; exact Flow.run1 (Flow.want_of (k := 65) rfl e65) (ld rfl e68 ((blk_cell (blk_below K6.out hx) 5).trans rfl) Tryd.underlying4 rfl) (hK _ _ (Below.refl _ _) rfl)
    · intro a w' hx hu hd K hK; have e67 := Flow.got (hd 28 rfl) 67 rfl; have e69 := Flow.got (hd 30 rfl) 69 rfl; have e65 := Flow.got (hd 26 rfl) 65 rfl; exact Flow.run1 (Flow.want_of (k := 65) rfl e65) (is (beqb Tryd.underlying4 rfl e67 e69) (beq_self_eq_true _)) (hK _ _ (Below.refl _ _) rfl)
    · intro a w' hx hu hd K hK; have e65 := Flow.got (hd 26 rfl) 65 rfl; have e70 := Flow.got (hd 31 rfl) 70 rfl; exact Flow.run1 rfl (Flow.r_pick rfl e65 e70) (hK _ _ (Below.refl _ _) rfl)
    · intro a w' hx hu hd K hK; have e71 := Flow.got (hd 32 rfl) 71 rfl; exact Flow.run1 rfl (Flow.r_move rfl e71) (hK _ _ (Below.refl _ _) rfl)
    · intro a w' hx hu hd K hK; have e5 : a.tmps.getD 5 undef = (.pointer (some ⟨g5, 0, none⟩)) := hu 5 rfl; have e72 := Flow.got (hd 33 rfl) 72 rfl; exact Flow.run1 (Flow.want_of (k := 72) rfl e72) (fa rfl e5 (fa54_4 _ _ _)) (hK _ _ (Below.refl _ _) rfl)
    · intro a w' hx hu hd K hK; have e73 := Flow.got (hd 34 rfl) 73 rfl; have e72 := Flow.got (hd 33 rfl) 72 rfl; exact Flow.run1 (Flow.want_of (k := 72) rfl e72) (ld rfl e73 ((blk_cell (blk_below K5.out hx) 4).trans rfl) Tryd.underlying43 rfl) (hK _ _ (Below.refl _ _) rfl)
    · intro a w' hx hu hd K hK; have e74 := Flow.got (hd 35 rfl) 74 rfl; have e72 := Flow.got (hd 33 rfl) 72 rfl; exact Flow.run1 (Flow.want_of (k := 72) rfl e72) (cvs rfl e74 (Kd.C_string Tryd.underlying43 Tryd.underlying5 Tryd.underlying9 (Kd.C_below HC5.out (below_step HB900.out hx)))) (hK _ _ (Below.refl _ _) rfl)
    · intro a w' hx hu hd K hK; have e6 : a.tmps.getD 6 undef = (.pointer (some ⟨g6, 0, none⟩)) := hu 6 rfl; have e72 := Flow.got (hd 33 rfl) 72 rfl; exact Flow.run1 (Flow.want_of (k := 72) rfl e72) (fa rfl e6 (fa54_4 _ _ _)) (hK _ _ (Below.refl _ _) rfl)
    · intro a w' hx hu hd K hK; have e76 := Flow.got (hd 37 rfl) 76 rfl; have e72 := Flow.got (hd 33 rfl) 72 rfl; exact Flow.run1 (Flow.want_of (k := 72) rfl e72) (ld rfl e76 ((blk_cell (blk_below K6.out hx) 4).trans rfl) Tryd.underlying43 rfl) (hK _ _ (Below.refl _ _) rfl)
    · intro a w' hx hu hd K hK; have e77 := Flow.got (hd 38 rfl) 77 rfl; have e72 := Flow.got (hd 33 rfl) 72 rfl; exact Flow.run1 (Flow.want_of (k := 72) rfl e72) (cvs rfl e77 (Kd.C_string Tryd.underlying43 Tryd.underlying5 Tryd.underlying9 (Kd.C_below HC6.out (below_step HB900.out hx)))) (hK _ _ (Below.refl _ _) rfl)
    · intro a w' hx hu hd K hK; have e75 := Flow.got (hd 36 rfl) 75 rfl; have e78 := Flow.got (hd 39 rfl) 78 rfl; have e72 := Flow.got (hd 33 rfl) 72 rfl; exact Flow.run1 (Flow.want_of (k := 72) rfl e72) (seq rfl e75 e78 rfl) (hK _ _ (Below.refl _ _) rfl)
    · intro a w' hx hu hd K hK; have e72 := Flow.got (hd 33 rfl) 72 rfl; have e79 := Flow.got (hd 40 rfl) 79 rfl; exact Flow.run1 rfl (Flow.r_pick rfl e72 e79) (hK _ _ (Below.refl _ _) rfl)
    · intro a w' hx hu hd K hK; have e80 := Flow.got (hd 41 rfl) 80 rfl; exact Flow.run1 rfl (Flow.r_assign rfl e80) (hK _ _ (Below.refl _ _) rfl)
  intro vs W902 hb902 hT
  have v0 := Flow.eqn (hT 0 (by decide))
  have v1 := Flow.eqn (hT 1 (by decide))
  have v2 := Flow.eqn (hT 2 (by decide))
  have v3 := Flow.eqn (hT 3 (by decide))
  have v4 := Flow.eqn (hT 4 (by decide))
  have v5 := Flow.eqn (hT 5 (by decide))
  have v6 := Flow.eqn (hT 6 (by decide))
  have v7 := Flow.eqn (hT 7 (by decide))
  have v8 := Flow.eqn (hT 8 (by decide))
  have v9 := Flow.eqn (hT 9 (by decide))
  have v10 := Flow.eqn (hT 10 (by decide))
  have v11 := Flow.eqn (hT 11 (by decide))
  have v12 := Flow.eqn (hT 12 (by decide))
  have v13 := Flow.eqn (hT 13 (by decide))
  have v14 := Flow.eqn (hT 14 (by decide))
  have v15 := Flow.eqn (hT 15 (by decide))
  have v16 := Flow.eqn (hT 16 (by decide))
  have v17 := Flow.eqn (hT 17 (by decide))
  have v18 := Flow.eqn (hT 18 (by decide))
  have v19 := Flow.eqn (hT 19 (by decide))
  have v20 := Flow.eqn (hT 20 (by decide))
  have v21 := Flow.eqn (hT 21 (by decide))
  have v22 := Flow.eqn (hT 22 (by decide))
  have v23 := Flow.eqn (hT 23 (by decide))
  have v24 := Flow.eqn (hT 24 (by decide))
  have v25 := Flow.eqn (hT 25 (by decide))
  have v26 := Flow.eqn (hT 26 (by decide))
  have v27 := Flow.eqn (hT 27 (by decide))
  have v28 := Flow.eqn (hT 28 (by decide))
  have v29 := Flow.eqn (hT 29 (by decide))
  have v30 := Flow.eqn (hT 30 (by decide))
  have v31 := Flow.eqn (hT 31 (by decide))
  have v32 := Flow.eqn (hT 32 (by decide))
  have v33 := Flow.eqn (hT 33 (by decide))
  have v34 := Flow.eqn (hT 34 (by decide))
  have v35 := Flow.eqn (hT 35 (by decide))
  have v36 := Flow.eqn (hT 36 (by decide))
  have v37 := Flow.eqn (hT 37 (by decide))
  have v38 := Flow.eqn (hT 38 (by decide))
  have v39 := Flow.eqn (hT 39 (by decide))
  have v40 := Flow.eqn (hT 40 (by decide))
  have v41 := Flow.eqn (hT 41 (by decide))
  have v42 := Flow.eqn (hT 42 (by decide))
  simp only [Flow.putsT, v0, v1, v2, v3, v4, v5, v6, v7, v8, v9, v10, v11, v12, v13, v14, v15, v16, v17, v18, v19, v20, v21, v22, v23, v24, v25, v26, v27, v28, v29, v30, v31, v32, v33, v34, v35, v36, v37, v38, v39, v40, v41, v42, Act.put, List.setIfInBounds_toArray, List.set_cons_zero, List.set_cons_succ]
  clear hT v0 v1 v2 v3 v4 v5 v6 v7 v8 v9 v10 v11 v12 v13 v14 v15 v16 v17 v18 v19 v20 v21 v22 v23 v24 v25 v26 v27 v28 v29 v30 v31 v32 v33 v34 v35 v36 v37 v38 v39 v40 v41 v42
  have HB902 := Aside0.mk (below_step HB900.out hb902)
  have K5_902 := Aside0.mk (blk_below K5.out hb902)
  have K6_902 := Aside0.mk (blk_below K6.out hb902)
  clear hb902
  go_wp2
  go_ret
  exact ⟨rfl, HB902.out⟩
end Go.Proofs.YtlhmpmmblnbmbaaDoor.Con
set_option linter.unusedVariables false
set_option linter.unusedSimpArgs false
namespace Go.Proofs.YtlhmpmmblnbmbaaDoor.Con
open Go.Lib Go.RowKit Go.Proofs.YtlhmpmmblnbmbaaDoor.Ev Go.Proofs.YtlhmpmmblnbmbaaDoor.Ke Go.Proofs.YtlhmpmmblnbmbaaDoor.Cells Go.Proofs.YtlhmpmmblnbmbaaDoor.PConsoleParses Go.Proofs.YtlhmpmmblnbmbaaDoorW.PrintWords Go.Proofs.YtlhmpmmblnbmbaaDoorW.PrintLast Go.Proofs.YtlhmpmmblnbmbaaDoorW.PrintMore WordsPlain NumberPlain
def toS (x : A10) : S56 := ⟨x.kind, ⟨x.cmd, x.zone, x.at_, x.n, x.data, x.fua⟩, x.m, x.k, x.keep⟩
theorem elem56 {w : World} {A : Option Addr} {n : Nat} {l : List A10} (h : Kd.C k56 w A n (l.map toS)) (i : Nat) (h1 : i < n) (hl : l.length = n) : ∃ ad A5 c5 A9 c9, A = some ad ∧ Lies w (ad.add (i * 10)) (cellsA (l.getD i zA) (.slice A5 (l.getD i zA).data.length c5) (.slice A9 (l.getD i zA).keep.length c9)) ∧ (Kd.int .u8).C w A5 (l.getD i zA).data.length (l.getD i zA).data ∧ (Kd.int .u8).C w A9 (l.getD i zA).keep.length (l.getD i zA).keep := by
  obtain ⟨ad, c, hA, hc, hk, hcell⟩ := Kd.C_get h (toS zA) (i : Int) (by omega) (by omega)
  rw [Int.toNat_natCast] at hk hcell
  have hi : i < l.length := by omega
  have e : (l.map toS).getD i (toS zA) = toS (l.getD i zA) := by
    rw [List.getD_eq_getElem?_getD, List.getD_eq_getElem?_getD, List.getElem?_map]
    cases l[i]? <;> rfl
  rw [e] at hk
  obtain ⟨A5, c5, A9, c9, rfl, l5, g5, l9, g9⟩ := k56_open hk
  refine ⟨ad, A5, c5, A9, c9, hA, fun j u hj => ?_, g5, g9⟩
  have := hcell j u hj
  rw [Addr.add_add]
  exact this
set_option maxHeartbeats 4000000 in
set_option maxRecDepth 100000 in
theorem sameall_c (l : List A10) (A B : Option Addr) (n c d : Nat) (hl : l.length = n) (hn : n ≤ 1000000) (w : World) (hA : Kd.C k56 w A n (l.map toS)) (hB : Kd.C k56 w B n (l.map toS)) : Calls Tryd.prog 33 #[.slice A n c, .slice B n d] w fun e w' => e = .returned (.bool true) ∧ Below w.heap.size w w' := by
  have HL := Aside0.mk hl
  have HA := Aside0.mk hA
  have HB := Aside0.mk hB
  clear hA hB hl
  go_enter Tryd.func33, Tryd.ntmps33
  go_upto_region 0 with fail
  refine Flow.seqT (E := fun u v => Below u.heap.size u v) [(some 4, [])] (fun iQ vQ wQ => match iQ with | 0 => vQ = (.bool false) | _ => True) rfl (by kernel_rfl) (Below.refl _ _) (fun _ _ _ h k => h.trans (k.mono h.size)) (fun _ _ _ _ h _ => h) ?_ ?_
  · refine ⟨?_, trivial⟩
    · intro a w' hx hu hd K hK; exact Flow.run1 rfl (Flow.r_assign rfl rfl) (hK _ _ (Below.refl _ _) rfl)
  intro vs W1 hb1 hT
  have v0 := Flow.eqn (hT 0 (by decide))
  simp only [Flow.putsT, v0, Act.put, List.setIfInBounds_toArray, List.set_cons_zero, List.set_cons_succ]
  clear hT v0
  have HB1 := Aside0.mk hb1
  clear hb1
  go_upto_region 1 with fail
  refine Flow.seqT (E := fun u v => Below u.heap.size u v) [(some 6, []), (some 7, [0]), (some 8, []), (some 9, [2]), (some 10, [1, 3])] (fun iQ vQ wQ => match iQ with | 0 => vQ = (.slice A n c) | 1 => vQ = (.int .i64 n) | 2 => vQ = (.slice B n d) | 3 => vQ = (.int .i64 n) | 4 => vQ = (.bool false) | _ => True) rfl (by kernel_rfl) (Below.refl _ _) (fun _ _ _ h k => h.trans (k.mono h.size)) (fun _ _ _ _ h _ => h) ?_ ?_
  · refine ⟨?_, ?_, ?_, ?_, ?_, trivial⟩
    · intro a w' hx hu hd K hK; have e0 : a.tmps.getD 0 undef = (.slice A n c) := hu 0 rfl; exact Flow.run1 rfl (Flow.r_move rfl e0) (hK _ _ (Below.refl _ _) rfl)
    · intro a w' hx hu hd K hK; have e6 := Flow.got (hd 0 rfl) 6 rfl; exact Flow.run1 rfl (lenL Tryd.underlying59 rfl e6) (hK _ _ (Below.refl _ _) rfl)
    · intro a w' hx hu hd K hK; have e1 : a.tmps.getD 1 undef = (.slice B n d) := hu 1 rfl; exact Flow.run1 rfl (Flow.r_move rfl e1) (hK _ _ (Below.refl _ _) rfl)
    · intro a w' hx hu hd K hK; have e8 := Flow.got (hd 2 rfl) 8 rfl; exact Flow.run1 rfl (lenL Tryd.underlying59 rfl e8) (hK _ _ (Below.refl _ _) rfl)
    · intro a w' hx hu hd K hK; have e7 := Flow.got (hd 1 rfl) 7 rfl; have e9 := Flow.got (hd 3 rfl) 9 rfl; exact Flow.run1 rfl (no (neq rfl e7 e9) (bne_eq_false_iff_eq.2 rfl)) (hK _ _ (Below.refl _ _) rfl)
  intro vs W2 hb2 hT
  have v0 := Flow.eqn (hT 0 (by decide))
  have v1 := Flow.eqn (hT 1 (by decide))
  have v2 := Flow.eqn (hT 2 (by decide))
  have v3 := Flow.eqn (hT 3 (by decide))
  have v4 := Flow.eqn (hT 4 (by decide))
  simp only [Flow.putsT, v0, v1, v2, v3, v4, Act.put, List.setIfInBounds_toArray, List.set_cons_zero, List.set_cons_succ]
  clear hT v0 v1 v2 v3 v4
  have HB2 := Aside0.mk (below_step HB1.out hb2)
  clear hb2
  go_upto_region 3 with fail
  refine Flow.seqT (E := fun u v => Below u.heap.size u v) [(some 5, [])] (fun iQ vQ wQ => match iQ with | 0 => vQ = (.int .i64 0) | _ => True) rfl (by kernel_rfl) (Below.refl _ _) (fun _ _ _ h k => h.trans (k.mono h.size)) (fun _ _ _ _ h _ => h) ?_ ?_
  · refine ⟨?_, trivial⟩
    · intro a w' hx hu hd K hK; exact Flow.run1 rfl (Flow.r_assign rfl rfl) (hK _ _ (Below.refl _ _) rfl)
  intro vs W3 hb3 hT
  have v0 := Flow.eqn (hT 0 (by decide))
  simp only [Flow.putsT, v0, Act.put, List.setIfInBounds_toArray, List.set_cons_zero, List.set_cons_succ]
  clear hT v0
  have HB3 := Aside0.mk (below_step HB2.out hb3)
  clear hb3
  go_wp2
  go_loopg [5] n (fun g v5 wr => ∃ i : Nat, i ≤ n ∧ Aside0 (g = n - i) ∧ v5 = .int .i64 i ∧ Aside0 (Below w.heap.size w wr))
  case atStart => exact ⟨0, Nat.zero_le _, ⟨rfl⟩, rfl, HB3⟩
  case round =>
    clear HB3
    obtain ⟨i, hi, HGI, rfl, HBR⟩ := hrel
    by_cases hlt : i < n
    · have hlt2 : (i : Int) < n := by omega
      obtain ⟨ad, A5, c5, A9, c9, e1, hl1, hd1, hk1⟩ := elem56 HA.out i hlt HL.out
      obtain ⟨ae, B5, d5, B9, d9, e2, hl2, hd2, hk2⟩ := elem56 HB.out i hlt HL.out
      subst e1
      subst e2
      obtain ⟨x, hx⟩ : ∃ q, l.getD i zA = q := ⟨_, rfl⟩
      rw [hx] at hl1 hd1 hk1 hl2 hd2 hk2
      clear hx
      have HL1 := Aside0.mk hl1
      have HL2 := Aside0.mk hl2
      have HD1 := Aside0.mk hd1
      have HD2 := Aside0.mk hd2
      have HK1 := Aside0.mk hk1
      have HK2 := Aside0.mk hk2
      clear hl1 hl2 hd1 hd2 hk1 hk2
      go_upto_region 4 with fail
      refine Flow.seqT (E := fun u v => Below u.heap.size u v) [(some 11, []), (some 12, []), (some 13, [1]), (some 14, [0, 2])] (fun iQ vQ wQ => match iQ with | 0 => vQ = (.int .i64 i) | 1 => vQ = (.slice (some ad) n c) | 2 => vQ = (.int .i64 n) | 3 => vQ = (.bool true) | _ => True) rfl (by kernel_rfl) (Below.refl _ _) (fun _ _ _ h k => h.trans (k.mono h.size)) (fun _ _ _ _ h _ => h) ?_ ?_
      · refine ⟨?_, ?_, ?_, ?_, trivial⟩
        · intro a w' hx hu hd K hK; have e5 : a.tmps.getD 5 undef = (.int .i64 i) := hu 5 rfl; exact Flow.run1 rfl (Flow.r_move rfl e5) (hK _ _ (Below.refl _ _) rfl)
        · intro a w' hx hu hd K hK; have e0 : a.tmps.getD 0 undef = (.slice (some ad) n c) := hu 0 rfl; exact Flow.run1 rfl (Flow.r_move rfl e0) (hK _ _ (Below.refl _ _) rfl)
        · intro a w' hx hu hd K hK; have e12 := Flow.got (hd 1 rfl) 12 rfl; exact Flow.run1 rfl (lenL Tryd.underlying59 rfl e12) (hK _ _ (Below.refl _ _) rfl)
        · intro a w' hx hu hd K hK; have e11 := Flow.got (hd 0 rfl) 11 rfl; have e13 := Flow.got (hd 2 rfl) 13 rfl; exact Flow.run1 rfl (yes (lss rfl e11 e13) (decide_eq_true hlt2)) (hK _ _ (Below.refl _ _) rfl)
      intro vs W4 hb4 hT
      have v0 := Flow.eqn (hT 0 (by decide))
      have v1 := Flow.eqn (hT 1 (by decide))
      have v2 := Flow.eqn (hT 2 (by decide))
      have v3 := Flow.eqn (hT 3 (by decide))
      simp only [Flow.putsT, v0, v1, v2, v3, Act.put, List.setIfInBounds_toArray, List.set_cons_zero, List.set_cons_succ]
      clear hT v0 v1 v2 v3
      have HB4 := Aside0.mk (below_step HBR.out hb4)
      clear hb4
      go_upto_region 6 with fail
      refine Flow.flowT (E := fun u v => Below u.heap.size u v) [(some 17, []), (some 18, []), (some 19, [0, 1]), (some 20, [2]), (some 21, []), (some 22, []), (some 23, [4, 5]), (some 24, [6]), (some 25, [3, 7]), (some 26, [8])] (fun iQ vQ wQ => match iQ with | 0 => vQ = (.slice (some ad) n c) | 1 => vQ = (.int .i64 i) | 2 => vQ = (.pointer (some (ad.add (i * 10)))) | 3 => vQ = (.agg #[.int .i64 x.kind, .int .i64 x.cmd, .int .i64 x.zone, .int .i64 x.at_, .int .i64 x.n, .slice A5 x.data.length c5, .bool x.fua, .int .i64 x.m, .int .i64 x.k, .slice A9 x.keep.length c9]) | 4 => vQ = (.slice (some ae) n d) | 5 => vQ = (.int .i64 i) | 6 => vQ = (.pointer (some (ae.add (i * 10)))) | 7 => vQ = (.agg #[.int .i64 x.kind, .int .i64 x.cmd, .int .i64 x.zone, .int .i64 x.at_, .int .i64 x.n, .slice B5 x.data.length d5, .bool x.fua, .int .i64 x.m, .int .i64 x.k, .slice B9 x.keep.length d9]) | 8 => vQ = (.bool true) | 9 => vQ = (.bool false) | _ => True) rfl (by kernel_rfl) (by kernel_rfl) (by kernel_rfl) ((Below.refl _ _).drew) (fun _ _ _ h k => h.trans (k.mono h.size)) (fun _ _ _ _ h _ => h) ?_ ?_
      · refine ⟨?_, ?_, ?_, ?_, ?_, ?_, ?_, ?_, ?_, ?_, trivial⟩
        · intro a w' hx hu hd K hK; have e0 : a.tmps.getD 0 undef = (.slice (some ad) n c) := hu 0 rfl; exact Flow.run1 rfl (Flow.r_move rfl e0) (hK _ _ (Below.refl _ _) rfl)
        · intro a w' hx hu hd K hK; have e5 : a.tmps.getD 5 undef = (.int .i64 i) := hu 5 rfl; exact Flow.run1 rfl (Flow.r_move rfl e5) (hK _ _ (Below.refl _ _) rfl)
        · intro a w' hx hu hd K hK; have e17 := Flow.got (hd 0 (by decide)) 17 rfl; have e18 := Flow.got (hd 1 (by decide)) 18 rfl; exact Flow.run1 rfl (ix (i := i) Tryd.underlying59 size56 rfl e17 e18 hlt) (hK _ _ (Below.refl _ _) rfl)
        · intro a w' hx hu hd K hK; have e19 := Flow.got (hd 2 (by decide)) 19 rfl; exact Flow.run1 rfl (ldrow rfl e19 (lies_below HL1.out (below_step HB4.out hx)) Tryd.underlying56 rfl size56) (hK _ _ (Below.refl _ _) rfl)
        · intro a w' hx hu hd K hK; have e1 : a.tmps.getD 1 undef = (.slice (some ae) n d) := hu 1 rfl; exact Flow.run1 rfl (Flow.r_move rfl e1) (hK _ _ (Below.refl _ _) rfl)
        · intro a w' hx hu hd K hK; have e5 : a.tmps.getD 5 undef = (.int .i64 i) := hu 5 rfl; exact Flow.run1 rfl (Flow.r_move rfl e5) (hK _ _ (Below.refl _ _) rfl)
        · intro a w' hx hu hd K hK; have e21 := Flow.got (hd 4 (by decide)) 21 rfl; have e22 := Flow.got (hd 5 (by decide)) 22 rfl; exact Flow.run1 rfl (ix (i := i) Tryd.underlying59 size56 rfl e21 e22 hlt) (hK _ _ (Below.refl _ _) rfl)
        · intro a w' hx hu hd K hK; have e23 := Flow.got (hd 6 (by decide)) 23 rfl; exact Flow.run1 rfl (ldrow rfl e23 (lies_below HL2.out (below_step HB4.out hx)) Tryd.underlying56 rfl size56) (hK _ _ (Below.refl _ _) rfl)
        · intro a w' hx hu hd K hK; have e20 := Flow.got (hd 3 (by decide)) 20 rfl; have e24 := Flow.got (hd 7 (by decide)) 24 rfl; refine Flow.want rfl ?_; refine Flow.val_call rfl Tryd.func32 (by kernel_rfl) rfl (by first | (simp only [List.map_toArray, List.map_cons, List.map_nil, Act.eval, e20, e24]; done) | (simp only [List.map_toArray, List.map_cons, List.map_nil, Act.eval, e20, e24]; rfl)) (same_c x A5 A9 B5 B9 c5 c9 d5 d9 w' (Kd.C_below HD1.out (below_step HB4.out hx)) (Kd.C_below HK1.out (below_step HB4.out hx)) (Kd.C_below HD2.out (below_step HB4.out hx)) (Kd.C_below HK2.out (below_step HB4.out hx))) ?_; rintro e w2 ⟨rfl, hb2⟩; exact ⟨_, rfl, hK _ _ hb2 (by rfl)⟩
        · intro a w' hx hu hd K hK; have e25 := Flow.got (hd 8 (by decide)) 25 rfl; exact Flow.run1 rfl (Flow.r_not rfl e25) (hK _ _ (Below.refl _ _) rfl)
      intro vs W5 hb5 hT
      have v0 := Flow.eqn (hT 0 (by decide))
      have v1 := Flow.eqn (hT 1 (by decide))
      have v2 := Flow.eqn (hT 2 (by decide))
      have v3 := Flow.eqn (hT 3 (by decide))
      have v4 := Flow.eqn (hT 4 (by decide))
      have v5 := Flow.eqn (hT 5 (by decide))
      have v6 := Flow.eqn (hT 6 (by decide))
      have v7 := Flow.eqn (hT 7 (by decide))
      have v8 := Flow.eqn (hT 8 (by decide))
      have v9 := Flow.eqn (hT 9 (by decide))
      simp only [Flow.putsT, v0, v1, v2, v3, v4, v5, v6, v7, v8, v9, Act.put, List.setIfInBounds_toArray, List.set_cons_zero, List.set_cons_succ]
      clear hT v0 v1 v2 v3 v4 v5 v6 v7 v8 v9
      have HB5 := Aside0.mk (below_step HB4.out hb5)
      clear hb5
      go_wp2
      go_roundg (n - (i + 1))
      case measure => have := HGI.out; omega
      case rel => exact ⟨i + 1, by omega, ⟨rfl⟩, by go_num, HB5⟩
    · have hlt2 : ¬ (i : Int) < n := by omega
      go_upto_region 4 with fail
      refine Flow.seqT (E := fun u v => Below u.heap.size u v) [(some 11, []), (some 12, []), (some 13, [1]), (some 14, [0, 2])] (fun iQ vQ wQ => match iQ with | 0 => vQ = (.int .i64 i) | 1 => vQ = (.slice A n c) | 2 => vQ = (.int .i64 n) | 3 => vQ = (.bool false) | _ => True) rfl (by kernel_rfl) (Below.refl _ _) (fun _ _ _ h k => h.trans (k.mono h.size)) (fun _ _ _ _ h _ => h) ?_ ?_
      · refine ⟨?_, ?_, ?_, ?_, trivial⟩
        · intro a w' hx hu hd K hK; have e5 : a.tmps.getD 5 undef = (.int .i64 i) := hu 5 rfl; exact Flow.run1 rfl (Flow.r_move rfl e5) (hK _ _ (Below.refl _ _) rfl)
        · intro a w' hx hu hd K hK; have e0 : a.tmps.getD 0 undef = (.slice A n c) := hu 0 rfl; exact Flow.run1 rfl (Flow.r_move rfl e0) (hK _ _ (Below.refl _ _) rfl)
        · intro a w' hx hu hd K hK; have e12 := Flow.got (hd 1 rfl) 12 rfl; exact Flow.run1 rfl (lenL Tryd.underlying59 rfl e12) (hK _ _ (Below.refl _ _) rfl)
        · intro a w' hx hu hd K hK; have e11 := Flow.got (hd 0 rfl) 11 rfl; have e13 := Flow.got (hd 2 rfl) 13 rfl; exact Flow.run1 rfl (no (lss rfl e11 e13) (decide_eq_false hlt2)) (hK _ _ (Below.refl _ _) rfl)
      intro vs W6 hb6 hT
      have v0 := Flow.eqn (hT 0 (by decide))
      have v1 := Flow.eqn (hT 1 (by decide))
      have v2 := Flow.eqn (hT 2 (by decide))
      have v3 := Flow.eqn (hT 3 (by decide))
      simp only [Flow.putsT, v0, v1, v2, v3, Act.put, List.setIfInBounds_toArray, List.set_cons_zero, List.set_cons_succ]
      clear hT v0 v1 v2 v3
      have HB6 := Aside0.mk (below_step HBR.out hb6)
      clear hb6
      go_upto_region 8 with fail
      refine Flow.seqT (E := fun u v => Below u.heap.size u v) [(some 4, [])] (fun iQ vQ wQ => match iQ with | 0 => vQ = (.bool true) | _ => True) rfl (by kernel_rfl) (Below.refl _ _) (fun _ _ _ h k => h.trans (k.mono h.size)) (fun _ _ _ _ h _ => h) ?_ ?_
      · refine ⟨?_, trivial⟩
        · intro a w' hx hu hd K hK; exact Flow.run1 rfl (Flow.r_assign rfl rfl) (hK _ _ (Below.refl _ _) rfl)
      intro vs W7 hb7 hT
      have v0 := Flow.eqn (hT 0 (by decide))
      simp only [Flow.putsT, v0, Act.put, List.setIfInBounds_toArray, List.set_cons_zero, List.set_cons_succ]
      clear hT v0
      have HB7 := Aside0.mk (below_step HB6.out hb7)
      clear hb7
      go_wp2
      go_ret
      exact ⟨rfl, HB7.out⟩
end Go.Proofs.YtlhmpmmblnbmbaaDoor.Con
set_option linter.unusedVariables false
set_option linter.unusedSimpArgs false
namespace Go.Proofs.YtlhmpmmblnbmbaaDoor.Con
open Go.Lib Go.RowKit Go.Proofs.YtlhmpmmblnbmbaaDoor.Ev Go.Proofs.YtlhmpmmblnbmbaaDoor.Ke Go.Proofs.YtlhmpmmblnbmbaaDoor.Cells Go.Proofs.YtlhmpmmblnbmbaaDoor.PConsoleParses Go.Proofs.YtlhmpmmblnbmbaaDoorW.PrintWords Go.Proofs.YtlhmpmmblnbmbaaDoorW.PrintLast Go.Proofs.YtlhmpmmblnbmbaaDoorW.PrintMore WordsPlain NumberPlain
theorem info56 : (Tryd.prog.info? 56).map (fun i => (i.zero, i.size, i.bytes)) = some (some (.agg #[.int .i64 0, .int .i64 0, .int .i64 0, .int .i64 0, .int .i64 0, .slice none 0 0, .bool false, .int .i64 0, .int .i64 0, .slice none 0 0]), 10, 112) := by kernel_rfl
theorem row1_59 {o : Oper} {a : Act} {w : World} {x0 : Operand} {c0 c1 c2 c3 c4 c5 c6 c7 c8 c9 : Value} (ho : o.op = .buildSlice 59 1 #[(0, x0)]) (h0 : a.eval x0 = .agg #[c0, c1, c2, c3, c4, c5, c6, c7, c8, c9]) : (execOp a.eval o).run Tryd.prog w = .ok (.value (.slice (some ⟨w.heap.size, 0, none⟩) 1 1)) (w.alloc (.cells #[c0, c1, c2, c3, c4, c5, c6, c7, c8, c9] 56 (0, 0))) := by
  have hu := Tryd.underlying59
  have hue := Tryd.underlying56
  unfold execOp
  simp only [ho, List.map_toArray, List.map_cons, List.map_nil, h0]
  clear ho h0
  first
  | (go_simp; done)
  | (go_simp; rfl)
theorem app56 {ops : Array Oper} {rest : List Oper} {o : Oper} {a : Act} {Q : Exit → Act → World → Prop} {w0 W : World} {base g : Nat} {s y : Operand} {v vd vk : Value} {l : List A10} {x : A10} (hgd : o.guard = none)
    (ho : o.op = .call { callee := .builtin .append, args := #[s, y], argTypes := #[59, 59] }) (hs : a.eval s = v) (hx : a.eval y = .slice (some ⟨g, 0, none⟩) 1 1)
    (HO : k56.R 56 W base (fun _ => True) v (l.map toS)) (hd : (Kd.int .u8).R 5 W base (fun _ => True) vd x.data) (hk : (Kd.int .u8).R 5 W base (fun _ => True) vk x.keep)
    (K : W.heap[g]? = some (.cells (cellsA x vd vk).toArray 56 (0, 0))) (HB : Below base w0 W) (hbase : base ≤ W.heap.size) (hl : (l.length + 1) * 112 ≤ 140737488355328)
    (h : ∀ v1 w1, k56.R 56 w1 base (fun _ => True) v1 ((l ++ [x]).map toS) → Below base w0 w1 → wpList Tryd.prog ops Q rest (a.put o.dst v1) w1) : wpList Tryd.prog ops Q (o :: rest) a W := by
  have hd2 := Kd.R_bound hd
  have hk2 := Kd.R_bound hk
  refine Kd.R_append_rows (P := Tryd.prog) k56 (Rr := fun p cs => p = toS x ∧ cs = cellsA x vd vk) base hgd s y 59 56 _ 112 ho Tryd.underlying59 info56 rfl (by decide) (by decide) v (l.map toS) [toS x] (some ⟨g, 0, none⟩) 1 1 (fun _ => True) (fun k => True ∧ base ≤ k ∧ k < W.heap.size ∧ ∃ q, q ∈ (5 :: (Kd.int .u8).E) ∧ ∃ cells, W.heap[k]? = some (.cells cells q (0, 0))) hs hx HO ?_ ?_ ?_ (fun _ _ => trivial) HB hbase (by simpa using hl) ?_
  · refine ⟨rfl, by decide, fun _ => ⟨_, rfl, fun j p hj => ?_⟩⟩
    have : j = 0 := by
      cases j with
      | zero => rfl
      | succ j => simp at hj
    subst this
    obtain rfl : toS x = p := by simpa using hj
    refine ⟨cellsA x vd vk, rfl, ⟨rfl, rfl⟩, fun i u hi => ?_⟩
    rw [Nat.zero_mul, Nat.zero_add, Go.Proofs.YtlhmpmmblnbmbaaDoorW.PrintWords.add_plain, blk_cell K i]
    simpa using hi
  · rintro p cs ⟨rfl, rfl⟩
    exact k56_mkM W base _ (toS x) hd2 hk2
  · rintro k ⟨-, hk1, hk2, q, hq, cells, hc⟩
    refine ⟨trivial, fun e => ?_⟩
    obtain ⟨-, inner, hown, -⟩ := HO
    obtain ⟨cells2, hc2⟩ := own_typed hown k e.symm
    rw [hc] at hc2
    injection hc2 with hc2
    injection hc2 with h1 h2
    subst h2
    exact absurd hq (by decide)
  · intro v1 w1 h1 h2 _ _
    exact h v1 w1 (by rw [List.map_append]; exact h1) h2
end Go.Proofs.YtlhmpmmblnbmbaaDoor.Con
namespace Go.Proofs.YtlhmpmmblnbmbaaDoor.Lines
open Go Go.Lib
def linesL : List UInt8 → List (List UInt8)
  | [] => [[]]
  | c :: t => if c = 10 then [] :: linesL t else (match linesL t with | h :: r => (c :: h) :: r | [] => [[c]])
theorem split_lines : ∀ l : List UInt8, splitK [10] 0 (count l [10]) l = linesL l := by
  intro l
  induction l with
  | nil => rfl
  | cons c t ih =>
    unfold linesL
    by_cases hc : c = 10
    · subst hc
      rw [if_pos rfl, count_cons_eq, Nat.add_comm]
      have e : index ((10 : UInt8) :: t) [10] = 0 := by rw [index_one]; rfl
      unfold splitK
      rw [e, if_neg (by decide)]
      show [] :: splitK [10] 0 (count t [10]) (List.drop 1 (10 :: t)) = _
      rw [List.drop_succ_cons, List.drop_zero, ih]
    · rw [if_neg hc, count_cons_ne c 10 t hc, ← ih]
      have e : index (c :: t) [10] = if index t [10] == -1 then -1 else index t [10] + 1 := by
        rw [index_one, index_one]
        show (if c == 10 then (0 : Int) else _) = _
        rw [if_neg (by simpa using hc)]
      cases hk : count t [10] with
      | zero => rfl
      | succ k =>
        unfold splitK
        rw [e]
        by_cases hi : (index t [10] == -1) = true
        · rw [if_pos hi]
          simp only [hi, if_true]
          rfl
        · rw [if_neg hi]
          have h0 := index_ge t [10]
          have h1 : index t [10] ≠ -1 := by simpa using hi
          obtain ⟨j, hj⟩ : ∃ j : Nat, index t [10] = j := ⟨(index t [10]).toNat, by omega⟩
          rw [hj]
          have e2 : ((j : Int) + 1 == -1) = false := beq_eq_false_iff_ne.2 (by omega)
          rw [e2]
          have e3 : ((j : Int) + 1).toNat = j + 1 := by omega
          simp only [Bool.false_eq_true, if_false, e3, Int.toNat_natCast, Nat.add_zero, List.length_cons, List.length_nil, List.take_succ_cons, List.drop_succ_cons]
          rfl
theorem splitB_lines (s : ByteArray) (sep : ByteArray) (hs : sep.data.toList = [10]) : (splitB sep 0 (countB s sep) s).map (·.data.toList) = linesL s.data.toList := by
  rw [splitB_data, hs, ← split_lines]
  have : countB s sep = count s.data.toList sep.data.toList := rfl
  rw [this, hs]
theorem linesL_ne (l : List UInt8) : linesL l ≠ [] := by
  cases l with
  | nil => simp [linesL]
  | cons c t =>
    unfold linesL
    split
    · simp
    · split <;> simp
end Go.Proofs.YtlhmpmmblnbmbaaDoor.Lines
set_option linter.unusedVariables false
set_option linter.unusedSimpArgs false
namespace Go.Proofs.YtlhmpmmblnbmbaaDoor.Con
open Go.Lib Go.RowKit Go.Proofs.YtlhmpmmblnbmbaaDoor.Ev Go.Proofs.YtlhmpmmblnbmbaaDoor.Ke Go.Proofs.YtlhmpmmblnbmbaaDoor.Cells Go.Proofs.YtlhmpmmblnbmbaaDoor.PConsoleParses Go.Proofs.YtlhmpmmblnbmbaaDoorW.PrintWords Go.Proofs.YtlhmpmmblnbmbaaDoorW.PrintLast Go.Proofs.YtlhmpmmblnbmbaaDoorW.PrintMore WordsPlain NumberPlain Go.Proofs.YtlhmpmmblnbmbaaDoor.Lines
def resL (hx : ByteArray → List Int × Bool) : List ByteArray → Nat → List A10 → List A10 × Int
  | [], _, acc => (acc, 0)
  | t :: ts, k, acc => if t.size = 0 then resL hx ts (k + 1) acc else if (parse hx t).2 = true then resL hx ts (k + 1) (acc ++ [(parse hx t).1]) else (acc, ((k + 1 : Nat) : Int))
def ba (l : List UInt8) : ByteArray := ⟨l.toArray⟩
def att (cur : ByteArray) : List ByteArray → List ByteArray
  | [] => [cur]
  | h :: r => (cur ++ h) :: r
def linesB (l : List UInt8) : List ByteArray := (linesL l).map ba
theorem ba_data (s : ByteArray) : ba s.data.toList = s := by unfold ba; rfl
theorem att_nil (l : List UInt8) : att ByteArray.empty (linesB l) = linesB l := by
  unfold linesB
  cases h : linesL l with
  | nil => exact absurd h (linesL_ne l)
  | cons a r => show (ByteArray.empty ++ ba a) :: _ = _; rw [ByteArray.empty_append]; rfl
theorem linesB_end : linesB [] = [ByteArray.empty] := rfl
theorem att_end (cur : ByteArray) : att cur (linesB []) = [cur] := by
  show [cur ++ ByteArray.empty] = [cur]; rw [ByteArray.append_empty]
theorem att_line (cur : ByteArray) (t : List UInt8) : att cur (linesB (10 :: t)) = cur :: linesB t := by
  unfold linesB
  have : linesL (10 :: t) = [] :: linesL t := by unfold linesL; rw [if_pos rfl]; cases t <;> rfl
  rw [this]
  show (cur ++ ByteArray.empty) :: _ = _; rw [ByteArray.append_empty]
theorem att_char (cur : ByteArray) {c : UInt8} (hc : c ≠ 10) (t : List UInt8) : att cur (linesB (c :: t)) = att (cur ++ ba [c]) (linesB t) := by
  unfold linesB
  cases h : linesL t with
  | nil => exact absurd h (linesL_ne t)
  | cons a r =>
    have : linesL (c :: t) = (c :: a) :: r := by
      rw [linesL, if_neg hc, h]
    rw [this]
    show (cur ++ ba (c :: a)) :: _ = (cur ++ ba [c] ++ ba a) :: _
    rw [ByteArray.append_assoc]
    have e : ba (c :: a) = ba [c] ++ ba a := by
      apply ByteArray.ext
      simp [ba]
    rw [e]
theorem resL_empty {hx : ByteArray → List Int × Bool} {t : ByteArray} {ts : List ByteArray} {k : Nat} {acc : List A10} (h : t.size = 0) : resL hx (t :: ts) k acc = resL hx ts (k + 1) acc := by rw [resL, if_pos h]
theorem resL_step {hx : ByteArray → List Int × Bool} {t : ByteArray} {ts : List ByteArray} {k : Nat} {acc : List A10} (h : ¬ t.size = 0) (h2 : (parse hx t).2 = true) : resL hx (t :: ts) k acc = resL hx ts (k + 1) (acc ++ [(parse hx t).1]) := by rw [resL, if_neg h, if_pos h2]
theorem resL_bad {hx : ByteArray → List Int × Bool} {t : ByteArray} {ts : List ByteArray} {k : Nat} {acc : List A10} (h : ¬ t.size = 0) (h2 : (parse hx t).2 = false) : resL hx (t :: ts) k acc = (acc, ((k + 1 : Nat) : Int)) := by rw [resL, if_neg h, if_neg (by rw [h2]; decide)]
end Go.Proofs.YtlhmpmmblnbmbaaDoor.Con
set_option linter.unusedVariables false
set_option linter.unusedSimpArgs false
namespace Go.Proofs.YtlhmpmmblnbmbaaDoor.Con
open Go.Lib Go.RowKit Go.Proofs.YtlhmpmmblnbmbaaDoor.Ev Go.Proofs.YtlhmpmmblnbmbaaDoor.Ke Go.Proofs.YtlhmpmmblnbmbaaDoor.Cells Go.Proofs.YtlhmpmmblnbmbaaDoor.PConsoleParses Go.Proofs.YtlhmpmmblnbmbaaDoorW.PrintWords Go.Proofs.YtlhmpmmblnbmbaaDoorW.PrintLast Go.Proofs.YtlhmpmmblnbmbaaDoorW.PrintMore WordsPlain NumberPlain Go.Proofs.YtlhmpmmblnbmbaaDoor.Lines
def NL : ByteArray := ⟨#[10]⟩
def SplitV (l : List ByteArray) (n : Nat) (v : Value) (w : World) : Prop := ∃ g, v = .slice (some ⟨g, 0, none⟩) n n ∧ w.heap[g]? = some (.cells (l.map Value.string).toArray 9 (0, 0))
theorem SplitV.below {l : List ByteArray} {n : Nat} {v : Value} {w w1 : World} (h : SplitV l n v w) (hb : Below w.heap.size w w1) : SplitV l n v w1 := by
  obtain ⟨g, e, k⟩ := h
  exact ⟨g, e, blk_below k hb⟩
def PV (x : A10) (ok : Bool) (base : Nat) (v : Value) (w : World) : Prop := ∃ vd vk, v = .tuple #[.agg (cellsA x vd vk).toArray, .bool ok] ∧ Kd.R (Kd.int .u8) 5 w base (fun _ => True) vd x.data ∧ Kd.R (Kd.int .u8) 5 w base (fun _ => True) vk x.keep
theorem PV.below {x : A10} {ok : Bool} {base : Nat} {v : Value} {w w1 : World} (h : PV x ok base v w) (hb : Below w.heap.size w w1) : PV x ok base v w1 := by
  obtain ⟨vd, vk, e, h1, h2⟩ := h
  exact ⟨vd, vk, e, Kd.R_below h1 hb, Kd.R_below h2 hb⟩
def LinesPost (w : World) (r : List A10 × Int) (e : Ending) (w' : World) : Prop := ∃ v, e = .returned (.tuple #[v, .int .i64 r.2]) ∧ k56.R 56 w' w.heap.size (fun _ => True) v (r.1.map toS) ∧ Below w.heap.size w w'
theorem split_is (s : ByteArray) : splitB NL 0 (countB s NL) s = linesB s.data.toList := by
  have h := splitB_lines s NL rfl
  unfold linesB
  rw [← h, List.map_map]
  rw [show (ba ∘ fun x : ByteArray => x.data.toList) = id from funext ba_data, List.map_id]
theorem nl_at (s : ByteArray) {i : Nat} (h : i < s.size) : bt s i = ((s.data.toList[i]'(by simpa using h)).toNat : Int) := by
  have := bt_at s (i : Int) (by simpa using h)
  rw [← this]; rfl
theorem linesL_count : ∀ l : List UInt8, (linesL l).length = count l [10] + 1
  | [] => rfl
  | c :: t => by
    have ih := linesL_count t
    unfold linesL
    by_cases hc : c = 10
    · subst hc
      rw [if_pos rfl, count_cons_eq, List.length_cons, ih]; omega
    · rw [if_neg hc, count_cons_ne c 10 t hc, ← ih]
      split
      · next h r e => rw [e]; rfl
      · next e => exact absurd e (linesL_ne t)
theorem split_len (s : ByteArray) : (linesB s.data.toList).length = countB s NL + 1 := by
  unfold linesB
  rw [List.length_map, linesL_count]; rfl
theorem R_far_ne {α : Type} {d : Kd α} {e base : Nat} {ok : Nat → Prop} {v : Value} {xs : List α} {w w1 : World} {g : Nat} (h : d.R e w base (fun k => ok k ∧ k ≠ g) v xs) (hf : ∀ k, k ≠ g → w1.heap[k]? = w.heap[k]?) : d.R e w1 base ok v xs := Kd.R_mono (Kd.R_move h (fun k hk => hf k hk.2)) (fun k hk => hk.1)
def restL (s : ByteArray) (i : Nat) (cur : ByteArray) : List ByteArray := if i ≤ s.size then att cur (linesB (s.data.toList.drop i)) else []
theorem restL_end {s : ByteArray} {i : Nat} (h : ¬ i ≤ s.size) (cur : ByteArray) : restL s i cur = [] := if_neg h
theorem restL_line {s : ByteArray} {i : Nat} (h : i ≤ s.size) (cur : ByteArray) (hc : i < s.size → bt s i = 10) : restL s i cur = cur :: restL s (i + 1) ByteArray.empty := by
  unfold restL
  rw [if_pos h]
  by_cases hi : i < s.size
  · rw [if_pos (by omega), att_nil]
    have hl : i < s.data.toList.length := by simpa using hi
    rw [List.drop_eq_getElem_cons hl]
    have h1 := nl_at s hi
    rw [hc hi] at h1
    have h2 : s.data.toList[i] = 10 := UInt8.toNat_inj.1 (by show _ = 10; omega)
    rw [h2, att_line]
  · rw [if_neg (by omega), List.drop_eq_nil_of_le (by rw [Array.length_toList]; show s.size ≤ i; omega), att_end]
theorem restL_char {s : ByteArray} {i : Nat} (h : i < s.size) (cur : ByteArray) (hc : bt s i ≠ 10) : restL s i cur = restL s (i + 1) (cur ++ s.extract i (i + 1)) := by
  unfold restL
  rw [if_pos (by omega), if_pos (by omega)]
  have hl : i < s.data.toList.length := by simpa using h
  rw [List.drop_eq_getElem_cons hl]
  have h1 := nl_at s h
  have h2 : s.data.toList[i] ≠ 10 := fun e => hc (by rw [h1, e]; rfl)
  rw [att_char cur h2]
  congr 2
  apply ByteArray.ext
  apply Array.toList_inj.1
  show [s.data.toList[i]] = _
  rw [ByteArray.data_extract, Array.toList_extract]
  simp [List.extract, List.take_one, Array.getElem?_eq_getElem (show i < s.data.size from hl)]
theorem resL_len (hx : ByteArray → List Int × Bool) : ∀ (l : List ByteArray) (k : Nat) (acc : List A10), (resL hx l k acc).1.length ≤ acc.length + l.length
  | [], _, acc => Nat.le_refl _
  | t :: ts, k, acc => by
    unfold resL
    split
    · have := resL_len hx ts (k + 1) acc; simp only [List.length_cons]; omega
    · split
      · have := resL_len hx ts (k + 1) (acc ++ [(parse hx t).1]); simp only [List.length_append, List.length_cons, List.length_nil] at this ⊢; omega
      · simp only [List.length_cons]; omega
theorem linesL_len : ∀ l : List UInt8, (linesL l).length ≤ l.length + 1
  | [] => Nat.le_refl _
  | c :: t => by
    have ih := linesL_len t
    unfold linesL
    split
    · simp only [List.length_cons]; omega
    · split
      · next h r e => rw [e] at ih; simp only [List.length_cons] at ih ⊢; omega
      · simp
theorem linesB_len (s : ByteArray) : (linesB s.data.toList).length ≤ s.size + 1 := by
  unfold linesB
  rw [List.length_map]
  have := linesL_len s.data.toList
  rwa [Array.length_toList] at this
theorem ba_size (l : List UInt8) : (ba l).size = l.length := by simp [ba, ByteArray.size]
theorem linesL_mem : ∀ (l : List UInt8), ∀ t ∈ linesL l, t.length ≤ l.length
  | [], t, h => by simp only [linesL, List.mem_cons, List.not_mem_nil, or_false] at h; subst h; exact Nat.le_refl _
  | c :: r, t, h => by
    have ih := linesL_mem r
    unfold linesL at h
    split at h
    · rcases List.mem_cons.1 h with h | h
      · subst h; exact Nat.zero_le _
      · have := ih t h; simp only [List.length_cons]; omega
    · split at h
      · next a q e =>
        rw [e] at ih
        rcases List.mem_cons.1 h with h | h
        · subst h; have := ih a List.mem_cons_self; simp only [List.length_cons]; omega
        · have := ih t (List.mem_cons_of_mem _ h); simp only [List.length_cons]; omega
      · rcases List.mem_cons.1 h with h | h
        · subst h; simp
        · cases h
theorem linesB_get {s : ByteArray} (k : Nat) : ((linesB s.data.toList).getD k ByteArray.empty).size ≤ s.size := by
  by_cases h : k < (linesB s.data.toList).length
  · rw [List.getD_eq_getElem?_getD, List.getElem?_eq_getElem h]
    have hm := List.getElem_mem h
    unfold linesB at hm
    obtain ⟨t, ht, e⟩ := List.mem_map.1 hm
    show (linesB s.data.toList)[k].size ≤ _
    unfold linesB
    rw [← e, ba_size]
    have := linesL_mem _ t ht
    rwa [Array.length_toList] at this
  · rw [List.getD_eq_getElem?_getD, List.getElem?_eq_none (by omega)]; exact Nat.zero_le _
theorem emptyB {t : ByteArray} {b : Bool} (h : decide (t.size = 0) = b) : (t.toList == (⟨#[]⟩ : ByteArray).toList) = b := by
  rw [← h, ByteArray.toList_eq, ByteArray.toList_eq]
  have e : (t.size = 0) = (t.data.toList = []) := by
    apply propext
    rw [show t.size = t.data.toList.length from rfl]
    exact List.length_eq_zero_iff
  simp only [e]
  cases t.data.toList with
  | nil => rfl
  | cons a r => rfl
theorem nemptyB {t : ByteArray} {b : Bool} (h : decide (t.size = 0) = !b) : (t.toList != (⟨#[]⟩ : ByteArray).toList) = b := by
  have := emptyB h
  unfold bne
  rw [this, Bool.not_not]
theorem drop_cons {l : List ByteArray} {k : Nat} (h : k < l.length) : l.drop k = l.getD k ByteArray.empty :: l.drop (k + 1) := by
  rw [List.drop_eq_getElem_cons h, List.getD_eq_getElem?_getD, List.getElem?_eq_getElem h]; rfl
theorem strsl {P : Program} {o : Oper} {a : Act} {w : World} {T : TypeId} {x y z : Operand} {s : ByteArray} {i j : Nat} (hT : P.underlying T = some .string) (ho : o.op = .slice T x (some y) (some z) none) (hx : a.eval x = .string s) (hy : a.eval y = .int .i64 i) (hz : a.eval z = .int .i64 j) (h1 : i ≤ j) (h2 : j ≤ s.size) : (execOp a.eval o).run P w = .ok (.value (.string (s.extract i j))) w := by
  have h0 : (0 : Int) ≤ i ∧ (i : Int) ≤ j ∧ (j : Int) ≤ s.size := by omega
  unfold execOp
  simp only [ho, Option.map_some, Option.map_none, hx, hy, hz]
  go_simp
set_option maxHeartbeats 4000000 in
set_option maxRecDepth 100000 in
theorem lines_c (s : ByteArray) (hs : s.size ≤ 1000000) (w : World) (m : Int) (hm : w.cell? ⟨0, 0, none⟩ = some (.int .i64 m)) (r : List A10 × Int) (HR : Aside0 (resL hexF (linesB s.data.toList) 0 [] = r)) : Calls Tryd.prog 30 #[.string s] w (LinesPost w r) := by
  have HM := Aside0.mk hm
  obtain ⟨Ls, HLs⟩ : ∃ l, Aside0 (linesB s.data.toList = l) := ⟨_, ⟨rfl⟩⟩
  rw [HLs.out] at HR
  obtain ⟨n, HN⟩ : ∃ n, Aside0 (countB s NL + 1 = n) := ⟨_, ⟨rfl⟩⟩
  have HSP := Aside0.mk ((split_is s).trans HLs.out)
  have hln : Ls.length = n := by rw [← HLs.out, ← HN.out]; exact split_len s
  have HLN := Aside0.mk hln
  have hn6 : n ≤ 1000001 := by have := linesB_len s; rw [HLs.out] at this; omega
  have HSZ := Aside0.mk (fun k => Nat.le_trans (HLs.out ▸ linesB_get (s := s) k : (Ls.getD k ByteArray.empty).size ≤ s.size) hs)
  clear hm hln
  go_enter Tryd.func30, Tryd.ntmps30
  go_upto_region 0 with fail
  refine Flow.seqT (E := fun u v => Below u.heap.size u v) [(some 2, []), (some 3, [0])] (fun iQ vQ wQ => match iQ with | 0 => vQ = (.slice none 0 0) | 1 => vQ = (.int .i64 0) | _ => True) rfl (by kernel_rfl) (Below.refl _ _) (fun _ _ _ h k => h.trans (k.mono h.size)) (fun _ _ _ _ h _ => h) ?_ ?_
  · refine ⟨?_, ?_, trivial⟩
    · intro a w' hx hu hd K hK; exact Flow.run1 rfl (Flow.r_assign rfl rfl) (hK _ _ (Below.refl _ _) rfl)
    · intro a w' hx hu hd K hK; exact Flow.run1 rfl (Flow.r_assign rfl rfl) (hK _ _ (Below.refl _ _) rfl)
  intro vs W1 hb1 hT
  have v0 := Flow.eqn (hT 0 (by decide))
  have v1 := Flow.eqn (hT 1 (by decide))
  simp only [Flow.putsT, v0, v1, Act.put, List.setIfInBounds_toArray, List.set_cons_zero, List.set_cons_succ]
  clear hT v0 v1
  have HB1 := Aside0.mk hb1
  clear hb1
  go_upto_region 1 with fail
  refine Flow.seqT (E := fun u v => Below u.heap.size u v) [(some 4, [])] (fun iQ vQ wQ => match iQ with | 0 => vQ = (.slice none 0 0) | _ => True) rfl (by kernel_rfl) (Below.refl _ _) (fun _ _ _ h k => h.trans (k.mono h.size)) (fun _ _ _ _ h _ => h) ?_ ?_
  · refine ⟨?_, trivial⟩
    · intro a w' hx hu hd K hK; exact Flow.run1 rfl (Flow.r_assign rfl rfl) (hK _ _ (Below.refl _ _) rfl)
  intro vs W2 hb2 hT
  have v0 := Flow.eqn (hT 0 (by decide))
  simp only [Flow.putsT, v0, Act.put, List.setIfInBounds_toArray, List.set_cons_zero, List.set_cons_succ]
  clear hT v0
  have HB2 := Aside0.mk (below_step HB1.out hb2)
  clear hb2
  go_upto_region 2 with fail
  refine Flow.seqT_head (E := fun u v => Below u.heap.size u v) 2 [(some 9, []), (some 10, [0]), (some 11, [1]), (some 12, [])] (fun iQ vQ wQ => match iQ with | 0 => vQ = (.string s) | 1 => SplitV Ls n vQ wQ | _ => True) rfl (by decide) (by kernel_rfl) (Below.refl _ _) (fun _ _ _ h k => h.trans (k.mono h.size)) (fun iQ vQ w1Q w2Q hQ hEQ => match iQ, hQ with | 0, hQ => hQ | 1, hQ => hQ.below hEQ | _ + 2, _ => trivial) ?_ ?_
  · refine ⟨?_, ?_, trivial⟩
    · intro a w' hx hu hd K hK; have e0 : a.tmps.getD 0 undef = (.string s) := hu 0 rfl; exact Flow.run1 rfl (Flow.r_move rfl e0) (hK _ _ (Below.refl _ _) rfl)
    · intro a w' hx hu hd K hK; have e9 := Flow.got (hd 0 rfl) 9 rfl; refine Flow.want rfl ?_; refine Flow.val_call rfl Tryd.func54 (by kernel_rfl) rfl (by first | (simp only [List.map_toArray, List.map_cons, List.map_nil, Act.eval, e9]; done) | (simp only [List.map_toArray, List.map_cons, List.map_nil, Act.eval, e9]; rfl)) (Tryd.strings_Split s NL m w' (by omega) (pw_cell_below (below_step HB2.out hx) HM.out) (by decide)) ?_; rintro e w2 ⟨rfl, rfl⟩; refine ⟨_, rfl, hK _ _ (below_alloc (Below.refl _ _) _) ⟨_, by rw [HN.out], ?_⟩⟩; rw [HSP.out]; exact blk_new _ _
  intro vs W3 hb3 hT
  have v0 := Flow.eqn (hT 0 (by decide))
  obtain ⟨gs, v1, hks⟩ : SplitV Ls n _ _ := hT 1 (by decide)
  have HKS := Aside0.mk hks
  clear hks
  simp only [Flow.putsT, v0, v1, Act.put, List.setIfInBounds_toArray, List.set_cons_zero, List.set_cons_succ, List.drop_succ_cons, List.drop_zero, List.take_succ_cons, List.take_zero]
  clear hT v0 v1
  have HB3 := Aside0.mk (below_step HB2.out hb3)
  clear hb3
  refine Flow.seqL (E := fun u v => Below u.heap.size u v) 2 2 [(some 9, []), (some 10, [0]), (some 11, [1]), (some 12, [])] (fun iQ vQ wQ => match iQ with | 2 => vQ = (.int .i64 n) | 3 => vQ = (.int .i64 0) | _ => True) rfl (by decide) (by kernel_rfl) (Below.refl _ _) (fun _ _ _ h k => h.trans (k.mono h.size)) (fun _ _ _ _ h _ => h) ?_ ?_
  · refine ⟨?_, ?_, trivial⟩
    · intro a w' hx hu hd K hK; have e10 : a.tmps.getD 10 undef = (.slice (some ⟨gs, 0, none⟩) n n) := hu 10 rfl; exact Flow.run1 rfl (lenL Tryd.underlying79 rfl e10) (hK _ _ (Below.refl _ _) rfl)
    · intro a w' hx hu hd K hK; exact Flow.run1 rfl (Flow.r_move rfl rfl) (hK _ _ (Below.refl _ _) rfl)
  intro vs W4 hb4 hT
  have v2 := Flow.eqn (hT 2 (by decide) (by decide))
  have v3 := Flow.eqn (hT 3 (by decide) (by decide))
  simp only [Flow.putsT, v2, v3, Act.put, List.setIfInBounds_toArray, List.set_cons_zero, List.set_cons_succ, List.drop_succ_cons, List.drop_zero, List.take_succ_cons, List.take_zero]
  clear hT v2 v3
  have HB4 := Aside0.mk (below_step HB3.out hb4)
  have HKS_4 := Aside0.mk (blk_below HKS.out hb4)
  clear hb4
  go_wp2
  go_loopg [4, 12] n (fun g v4 v12 wr => ∃ k : Nat, k ≤ n ∧ Aside0 (g = n - k) ∧ v12 = .int .i64 k ∧ Aside0 (Below W4.heap.size W4 wr) ∧ ∃ acc : List A10, Aside0 (acc.length ≤ k) ∧ Aside0 (k56.R 56 wr W4.heap.size (fun _ => True) v4 (acc.map toS)) ∧ Aside0 (resL hexF (Ls.drop k) k acc = r))
  case atStart => exact ⟨0, Nat.zero_le _, ⟨rfl⟩, rfl, ⟨Below.refl _ _⟩, [], ⟨Nat.le_refl _⟩, ⟨Kd.R_nil _ _ _ _ _⟩, HR⟩
  case round =>
    obtain ⟨k, hk, HGK, rfl, HBR, acc, HAC, HRO, HRES⟩ := hrel
    by_cases hlt : k < n
    · have hlt2 : (k : Int) < n := by omega
      have hkl : k < Ls.length := by have := HLN.out; omega
      have HDC := Aside0.mk (drop_cons hkl)
      obtain ⟨t, HT⟩ : ∃ q, Aside0 (Ls.getD k ByteArray.empty = q) := ⟨_, ⟨rfl⟩⟩
      have hts : t.size ≤ 1000000 := HT.out ▸ HSZ.out k
      have HRE := Aside0.mk (HRES.out)
      rw [HDC.out, HT.out] at HRE
      obtain ⟨⟨x, ok⟩, HX⟩ : ∃ q, Aside0 (parse hexF t = q) := ⟨_, ⟨rfl⟩⟩
      obtain ⟨k1, HK1⟩ : ∃ q, Aside0 (k + 1 = q) := ⟨_, ⟨rfl⟩⟩
      have hk1 := HK1.out
      have hac := HAC.out
      go_upto_region 3 with fail
      refine Flow.seqT (E := fun u v => Below u.heap.size u v) [(some 13, [])] (fun iQ vQ wQ => match iQ with | 0 => vQ = (.bool true) | _ => True) rfl (by kernel_rfl) (Below.refl _ _) (fun _ _ _ h k => h.trans (k.mono h.size)) (fun _ _ _ _ h _ => h) ?_ ?_
      · refine ⟨?_, trivial⟩
        · intro a w' hx hu hd K hK; have e12 : a.tmps.getD 12 undef = (.int .i64 k) := hu 12 rfl; have e11 : a.tmps.getD 11 undef = (.int .i64 n) := hu 11 rfl; exact Flow.run1 rfl (yes (lss rfl e12 e11) (decide_eq_true hlt2)) (hK _ _ (Below.refl _ _) rfl)
      intro vs W6 hb6 hT
      have v0 := Flow.eqn (hT 0 (by decide))
      simp only [Flow.putsT, v0, Act.put, List.setIfInBounds_toArray, List.set_cons_zero, List.set_cons_succ]
      clear hT v0
      have HB6 := Aside0.mk (below_step HBR.out hb6)
      have HRO_6 := Aside0.mk (Kd.R_below HRO.out hb6)
      clear hb6
      go_upto_region 4 with fail
      refine Flow.seqT (E := fun u v => Below u.heap.size u v) [(some 14, []), (some 15, []), (some 16, [1]), (some 5, [0, 0, 1, 2]), (some 6, [2, 3, 0, 1, 2, 3])] (fun iQ vQ wQ => match iQ with | 0 => vQ = (.int .i64 k) | 1 => vQ = (.pointer (some ⟨gs, k, none⟩)) | 2 => vQ = (.string t) | 3 => vQ = (.int .i64 k) | 4 => vQ = (.string t) | _ => True) rfl (by kernel_rfl) (Below.refl _ _) (fun _ _ _ h k => h.trans (k.mono h.size)) (fun _ _ _ _ h _ => h) ?_ ?_
      · refine ⟨?_, ?_, ?_, ?_, ?_, trivial⟩
        · intro a w' hx hu hd K hK; have e12 : a.tmps.getD 12 undef = (.int .i64 k) := hu 12 rfl; exact Flow.run1 rfl (Flow.r_move rfl e12) (hK _ _ (Below.refl _ _) rfl)
        · intro a w' hx hu hd K hK; have e10 : a.tmps.getD 10 undef = (.slice (some ⟨gs, 0, none⟩) n n) := hu 10 rfl; have e12 : a.tmps.getD 12 undef = (.int .i64 k) := hu 12 rfl; exact Flow.run1 rfl (ixr Tryd.underlying79 size9 rfl e10 e12 hlt) (hK _ _ (Below.refl _ _) rfl)
        · intro a w' hx hu hd K hK; have e15 := Flow.got (hd 1 rfl) 15 rfl; exact Flow.run1 rfl (ld rfl e15 (HT.out ▸ row_cell Value.string ByteArray.empty (blk_below HKS_4.out (below_step HB6.out hx)) (show k < Ls.length by have := HLN.out; omega)) Tryd.underlying9 rfl) (hK _ _ (Below.refl _ _) rfl)
        · intro a w' hx hu hd K hK; have e14 := Flow.got (hd 0 rfl) 14 rfl; exact Flow.run1 rfl (Flow.r_assign rfl e14) (hK _ _ (Below.refl _ _) rfl)
        · intro a w' hx hu hd K hK; have e16 := Flow.got (hd 2 rfl) 16 rfl; exact Flow.run1 rfl (Flow.r_assign rfl e16) (hK _ _ (Below.refl _ _) rfl)
      intro vs W7 hb7 hT
      have v0 := Flow.eqn (hT 0 (by decide))
      have v1 := Flow.eqn (hT 1 (by decide))
      have v2 := Flow.eqn (hT 2 (by decide))
      have v3 := Flow.eqn (hT 3 (by decide))
      have v4 := Flow.eqn (hT 4 (by decide))
      simp only [Flow.putsT, v0, v1, v2, v3, v4, Act.put, List.setIfInBounds_toArray, List.set_cons_zero, List.set_cons_succ]
      clear hT v0 v1 v2 v3 v4
      have HB7 := Aside0.mk (below_step HB6.out hb7)
      have HRO_7 := Aside0.mk (Kd.R_below HRO_6.out hb7)
      clear hb7
      by_cases hz : t.size = 0
      · have HZE := Aside0.mk (emptyB (decide_eq_true hz))
        go_upto_region 5 with fail
        refine Flow.seqT (E := fun u v => Below u.heap.size u v) [(some 17, []), (some 18, [0])] (fun iQ vQ wQ => match iQ with | 0 => vQ = (.string t) | 1 => vQ = (.bool true) | _ => True) rfl (by kernel_rfl) (Below.refl _ _) (fun _ _ _ h k => h.trans (k.mono h.size)) (fun _ _ _ _ h _ => h) ?_ ?_
        · refine ⟨?_, ?_, trivial⟩
          · intro a w' hx hu hd K hK; have e6 : a.tmps.getD 6 undef = (.string t) := hu 6 rfl; exact Flow.run1 rfl (Flow.r_move rfl e6) (hK _ _ (Below.refl _ _) rfl)
          · intro a w' hx hu hd K hK; have e17 := Flow.got (hd 0 rfl) 17 rfl; exact Flow.run1 rfl (seqb rfl e17 rfl HZE.out) (hK _ _ (Below.refl _ _) rfl)
        intro vs W8 hb8 hT
        have v0 := Flow.eqn (hT 0 (by decide))
        have v1 := Flow.eqn (hT 1 (by decide))
        simp only [Flow.putsT, v0, v1, Act.put, List.setIfInBounds_toArray, List.set_cons_zero, List.set_cons_succ]
        clear hT v0 v1
        have HB8 := Aside0.mk (below_step HB7.out hb8)
        have HRO_8 := Aside0.mk (Kd.R_below HRO_7.out hb8)
        clear hb8
        go_upto_region 10 with fail
        refine Flow.seqT (E := fun u v => Below u.heap.size u v) [(some 33, []), (some 12, [0])] (fun iQ vQ wQ => match iQ with | 0 => vQ = (.int .i64 k1) | 1 => vQ = (.int .i64 k1) | _ => True) rfl (by kernel_rfl) (Below.refl _ _) (fun _ _ _ h k => h.trans (k.mono h.size)) (fun _ _ _ _ h _ => h) ?_ ?_
        · refine ⟨?_, ?_, trivial⟩
          · intro a w' hx hu hd K hK; have e12 : a.tmps.getD 12 undef = (.int .i64 k) := hu 12 rfl; exact Flow.run1 rfl (addk rfl e12 rfl (by omega) (by omega) (by omega)) (hK _ _ (Below.refl _ _) rfl)
          · intro a w' hx hu hd K hK; have e33 := Flow.got (hd 0 rfl) 33 rfl; exact Flow.run1 rfl (Flow.r_move rfl e33) (hK _ _ (Below.refl _ _) rfl)
        intro vs W9 hb9 hT
        have v0 := Flow.eqn (hT 0 (by decide))
        have v1 := Flow.eqn (hT 1 (by decide))
        simp only [Flow.putsT, v0, v1, Act.put, List.setIfInBounds_toArray, List.set_cons_zero, List.set_cons_succ]
        clear hT v0 v1
        have HB9 := Aside0.mk (below_step HB8.out hb9)
        have HRO_9 := Aside0.mk (Kd.R_below HRO_8.out hb9)
        clear hb9
        go_wp2
        go_roundg (n - (k + 1))
        case measure => have := HGK.out; omega
        case rel => exact ⟨k1, by omega, ⟨by omega⟩, rfl, HB9, acc, ⟨by omega⟩, HRO_9, ⟨by rw [← hk1, ← HRE.out, resL_empty hz]⟩⟩
      · have HZE := Aside0.mk (emptyB (decide_eq_false hz))
        go_upto_region 5 with fail
        refine Flow.seqT (E := fun u v => Below u.heap.size u v) [(some 17, []), (some 18, [0])] (fun iQ vQ wQ => match iQ with | 0 => vQ = (.string t) | 1 => vQ = (.bool false) | _ => True) rfl (by kernel_rfl) (Below.refl _ _) (fun _ _ _ h k => h.trans (k.mono h.size)) (fun _ _ _ _ h _ => h) ?_ ?_
        · refine ⟨?_, ?_, trivial⟩
          · intro a w' hx hu hd K hK; have e6 : a.tmps.getD 6 undef = (.string t) := hu 6 rfl; exact Flow.run1 rfl (Flow.r_move rfl e6) (hK _ _ (Below.refl _ _) rfl)
          · intro a w' hx hu hd K hK; have e17 := Flow.got (hd 0 rfl) 17 rfl; exact Flow.run1 rfl (seqb rfl e17 rfl HZE.out) (hK _ _ (Below.refl _ _) rfl)
        intro vs W10 hb10 hT
        have v0 := Flow.eqn (hT 0 (by decide))
        have v1 := Flow.eqn (hT 1 (by decide))
        simp only [Flow.putsT, v0, v1, Act.put, List.setIfInBounds_toArray, List.set_cons_zero, List.set_cons_succ]
        clear hT v0 v1
        have HB10 := Aside0.mk (below_step HB7.out hb10)
        have HRO_10 := Aside0.mk (Kd.R_below HRO_7.out hb10)
        clear hb10
        go_upto_region 6 with fail
        refine Flow.seqT_head (E := fun u v => Below u.heap.size u v) 2 [(some 20, []), (some 21, [0]), (some 19, [1]), (some 22, [2]), (some 23, [2]), (some 7, []), (none, [5, 3, 1, 0, 1, 2, 3, 5]), (some 8, [4, 6, 0, 1, 2, 3, 4, 5, 6])] (fun iQ vQ wQ => match iQ with | 0 => vQ = (.string t) | 1 => PV x ok W4.heap.size vQ wQ | _ => True) rfl (by decide) (by kernel_rfl) (Below.refl _ _) (fun _ _ _ h k => h.trans (k.mono h.size)) (fun iQ vQ w1Q w2Q hQ hEQ => match iQ, hQ with | 0, hQ => hQ | 1, hQ => hQ.below hEQ | _ + 2, _ => trivial) ?_ ?_
        · refine ⟨?_, ?_, trivial⟩
          · intro a w' hx hu hd K hK; have e6 : a.tmps.getD 6 undef = (.string t) := hu 6 rfl; exact Flow.run1 rfl (Flow.r_move rfl e6) (hK _ _ (Below.refl _ _) rfl)
          · intro a w' hx hu hd K hK; have e20 := Flow.got (hd 0 rfl) 20 rfl; refine Flow.want rfl ?_; refine Flow.val_call rfl Tryd.func28 (by kernel_rfl) rfl (by first | (simp only [List.map_toArray, List.map_cons, List.map_nil, Act.eval, e20]; done) | (simp only [List.map_toArray, List.map_cons, List.map_nil, Act.eval, e20]; rfl)) (parse_all t (by omega) w') ?_; rintro e w2 ⟨vd, vk, rfl, hR1, hR2, hb2⟩; exact ⟨_, rfl, hK _ _ hb2 (HX.out ▸ (⟨vd, vk, rfl, Kd.R_lower hR1 (below_step HB10.out hx).size, Kd.R_lower hR2 (below_step HB10.out hx).size⟩ : PV _ _ _ _ _))⟩
        intro vs W11 hb11 hT
        have v0 := Flow.eqn (hT 0 (by decide))
        obtain ⟨vd, vk, v1, hRd, hRk⟩ : PV x ok _ _ _ := hT 1 (by decide)
        obtain ⟨Ad, cd, rfl, -, -⟩ := Kd.R_reads hRd
        obtain ⟨Ak, ck, rfl, -, -⟩ := Kd.R_reads hRk
        have HRD := Aside0.mk hRd
        have HRK := Aside0.mk hRk
        clear hRd hRk
        simp only [Flow.putsT, v0, v1, Act.put, List.setIfInBounds_toArray, List.set_cons_zero, List.set_cons_succ, List.drop_succ_cons, List.drop_zero, List.take_succ_cons, List.take_zero]
        clear hT v0 v1
        have HB11 := Aside0.mk (below_step HB10.out hb11)
        have HRO_11 := Aside0.mk (Kd.R_below HRO_10.out hb11)
        clear hb11
        refine Flow.seqL (E := fun u v => Below u.heap.size u v) 2 3 [(some 20, []), (some 21, [0]), (some 19, [1]), (some 22, [2]), (some 23, [2]), (some 7, []), (none, [5, 3, 1, 0, 1, 2, 3, 5]), (some 8, [4, 6, 0, 1, 2, 3, 4, 5, 6])] (fun iQ vQ wQ => match iQ with | 2 => vQ = (.tuple #[.agg #[.int .i64 x.kind, .int .i64 x.cmd, .int .i64 x.zone, .int .i64 x.at_, .int .i64 x.n, .slice Ad x.data.length cd, .bool x.fua, .int .i64 x.m, .int .i64 x.k, .slice Ak x.keep.length ck], .bool ok]) | 3 => vQ = (.agg #[.int .i64 x.kind, .int .i64 x.cmd, .int .i64 x.zone, .int .i64 x.at_, .int .i64 x.n, .slice Ad x.data.length cd, .bool x.fua, .int .i64 x.m, .int .i64 x.k, .slice Ak x.keep.length ck]) | 4 => vQ = (.bool ok) | _ => True) rfl (by decide) (by kernel_rfl) (Below.refl _ _) (fun _ _ _ h k => h.trans (k.mono h.size)) (fun _ _ _ _ h _ => h) ?_ ?_
        · refine ⟨?_, ?_, ?_, trivial⟩
          · intro a w' hx hu hd K hK; have e21 : a.tmps.getD 21 undef = (.tuple #[.agg #[.int .i64 x.kind, .int .i64 x.cmd, .int .i64 x.zone, .int .i64 x.at_, .int .i64 x.n, .slice Ad x.data.length cd, .bool x.fua, .int .i64 x.m, .int .i64 x.k, .slice Ak x.keep.length ck], .bool ok]) := hu 21 rfl; exact Flow.run1 rfl (Flow.r_move rfl e21) (hK _ _ (Below.refl _ _) rfl)
          · intro a w' hx hu hd K hK; have e19 := Flow.got (hd 2 rfl) 19 rfl; exact Flow.run1 rfl (extr rfl e19 rfl) (hK _ _ (Below.refl _ _) rfl)
          · intro a w' hx hu hd K hK; have e19 := Flow.got (hd 2 rfl) 19 rfl; exact Flow.run1 rfl (extr rfl e19 rfl) (hK _ _ (Below.refl _ _) rfl)
        intro vs W12 hb12 hT
        have v2 := Flow.eqn (hT 2 (by decide) (by decide))
        have v3 := Flow.eqn (hT 3 (by decide) (by decide))
        have v4 := Flow.eqn (hT 4 (by decide) (by decide))
        simp only [Flow.putsT, v2, v3, v4, Act.put, List.setIfInBounds_toArray, List.set_cons_zero, List.set_cons_succ, List.drop_succ_cons, List.drop_zero, List.take_succ_cons, List.take_zero]
        clear hT v2 v3 v4
        have HB12 := Aside0.mk (below_step HB11.out hb12)
        have HRO_12 := Aside0.mk (Kd.R_below HRO_11.out hb12)
        have HRD_12 := Aside0.mk (Kd.R_below HRD.out hb12)
        have HRK_12 := Aside0.mk (Kd.R_below HRK.out hb12)
        clear hb12
        refine ealloc rfl rfl zero56_is ?_
        intro g13 hg13 W13 hk13 hb13
        have Kg13 := Aside0.mk hk13
        have HRO_e13 := Aside0.mk (Kd.R_elderB HRO_12.out g13 (by rw [hg13]; exact Nat.le_refl _))
        have HB13 := Aside0.mk (below_step HB12.out hb13)
        have HRO_13 := Aside0.mk (Kd.R_below HRO_e13.out hb13)
        have HRD_13 := Aside0.mk (Kd.R_below HRD_12.out hb13)
        have HRK_13 := Aside0.mk (Kd.R_below HRK_12.out hb13)
        clear hb13
        have Gg13 := Aside0.mk (show W4.heap.size ≤ g13 by rw [hg13]; exact HB12.out.size)
        clear hg13 hk13
        simp only [Act.put, List.setIfInBounds_toArray, List.set_cons_zero, List.set_cons_succ]
        refine Cells.store_whole rfl rfl 56 _ _ rfl g13 [.int .i64 x.kind, .int .i64 x.cmd, .int .i64 x.zone, .int .i64 x.at_, .int .i64 x.n, .slice Ad x.data.length cd, .bool x.fua, .int .i64 x.m, .int .i64 x.k, .slice Ak x.keep.length ck] #[.int .i64 0, .int .i64 0, .int .i64 0, .int .i64 0, .int .i64 0, .slice none 0 0, .bool false, .int .i64 0, .int .i64 0, .slice none 0 0] rfl rfl Kg13.out rfl size56 rfl ?_
        intro W14 hk14 hf14 hb14
        have HRO_14 := Aside0.mk (R_far_ne HRO_13.out hf14)
        have HRD_14 := Aside0.mk (R_far HRD_13.out Kg13.out (by decide) hf14)
        have HRK_14 := Aside0.mk (R_far HRK_13.out Kg13.out (by decide) hf14)
        have HB14 := Aside0.mk (HB13.out.trans (hb14 _ Gg13.out))
        have Kg13_14 := Aside0.mk hk14
        clear hk14 hf14 hb14
        refine Flow.seqL (E := fun u v => Below u.heap.size u v) 7 1 [(some 20, []), (some 21, [0]), (some 19, [1]), (some 22, [2]), (some 23, [2]), (some 7, []), (none, [5, 3, 1, 0, 1, 2, 3, 5]), (some 8, [4, 6, 0, 1, 2, 3, 4, 5, 6])] (fun iQ vQ wQ => match iQ with | 7 => vQ = (.bool ok) | _ => True) rfl (by decide) (by kernel_rfl) (Below.refl _ _) (fun _ _ _ h k => h.trans (k.mono h.size)) (fun _ _ _ _ h _ => h) ?_ ?_
        · refine ⟨?_, trivial⟩
          · intro a w' hx hu hd K hK; have e23 : a.tmps.getD 23 undef = (.bool ok) := hu 23 rfl; exact Flow.run1 rfl (Flow.r_assign rfl e23) (hK _ _ (Below.refl _ _) rfl)
        intro vs W15 hb15 hT
        have v7 := Flow.eqn (hT 7 (by decide) (by decide))
        simp only [Flow.putsT, v7, Act.put, List.setIfInBounds_toArray, List.set_cons_zero, List.set_cons_succ, List.drop_succ_cons, List.drop_zero, List.take_succ_cons, List.take_zero]
        clear hT v7
        have HB15 := Aside0.mk (below_step HB14.out hb15)
        have HRO_15 := Aside0.mk (Kd.R_below HRO_14.out hb15)
        have HRD_15 := Aside0.mk (Kd.R_below HRD_14.out hb15)
        have HRK_15 := Aside0.mk (Kd.R_below HRK_14.out hb15)
        have Kg13_14_15 := Aside0.mk (blk_below Kg13_14.out hb15)
        clear hb15
        cases ok with
        | true =>
          go_upto_region 7 with fail
          refine Flow.seqT (E := fun u v => Below u.heap.size u v) [(some 24, []), (some 25, [0])] (fun iQ vQ wQ => match iQ with | 0 => vQ = (.bool true) | 1 => vQ = (.bool false) | _ => True) rfl (by kernel_rfl) (Below.refl _ _) (fun _ _ _ h k => h.trans (k.mono h.size)) (fun _ _ _ _ h _ => h) ?_ ?_
          · refine ⟨?_, ?_, trivial⟩
            · intro a w' hx hu hd K hK; have e8 : a.tmps.getD 8 undef = (.bool true) := hu 8 rfl; exact Flow.run1 rfl (Flow.r_move rfl e8) (hK _ _ (Below.refl _ _) rfl)
            · intro a w' hx hu hd K hK; have e24 := Flow.got (hd 0 rfl) 24 rfl; exact Flow.run1 rfl (Flow.r_not rfl e24) (hK _ _ (Below.refl _ _) rfl)
          intro vs W16 hb16 hT
          have v0 := Flow.eqn (hT 0 (by decide))
          have v1 := Flow.eqn (hT 1 (by decide))
          simp only [Flow.putsT, v0, v1, Act.put, List.setIfInBounds_toArray, List.set_cons_zero, List.set_cons_succ]
          clear hT v0 v1
          have HB16 := Aside0.mk (below_step HB15.out hb16)
          have HRO_16 := Aside0.mk (Kd.R_below HRO_15.out hb16)
          have HRD_16 := Aside0.mk (Kd.R_below HRD_15.out hb16)
          have HRK_16 := Aside0.mk (Kd.R_below HRK_15.out hb16)
          have Kg13_14_15_16 := Aside0.mk (blk_below Kg13_14_15.out hb16)
          clear hb16
          go_upto_region 9 with fail
          refine Flow.seqT_head (E := fun u v => Below u.heap.size u v) 3 [(some 29, []), (some 30, []), (some 31, [1]), (some 32, [0, 2]), (some 4, [3, 3, 0, 1, 2, 3])] (fun iQ vQ wQ => match iQ with | 0 => vQ = u4 | 1 => vQ = (.agg #[.int .i64 x.kind, .int .i64 x.cmd, .int .i64 x.zone, .int .i64 x.at_, .int .i64 x.n, .slice Ad x.data.length cd, .bool x.fua, .int .i64 x.m, .int .i64 x.k, .slice Ak x.keep.length ck]) | 2 => SliceAt #[.int .i64 x.kind, .int .i64 x.cmd, .int .i64 x.zone, .int .i64 x.at_, .int .i64 x.n, .slice Ad x.data.length cd, .bool x.fua, .int .i64 x.m, .int .i64 x.k, .slice Ak x.keep.length ck] 56 1 W4.heap.size vQ wQ | _ => True) rfl (by decide) (by kernel_rfl) (Below.refl _ _) (fun _ _ _ h k => h.trans (k.mono h.size)) (fun iQ vQ w1Q w2Q hQ hEQ => match iQ, hQ with | 0, hQ => hQ | 1, hQ => hQ | 2, hQ => slice_below hQ hEQ | _ + 3, _ => trivial) ?_ ?_
          · refine ⟨?_, ?_, ?_, trivial⟩
            · intro a w' hx hu hd K hK; have e4 : a.tmps.getD 4 undef = u4 := hu 4 rfl; exact Flow.run1 rfl (Flow.r_move rfl e4) (hK _ _ (Below.refl _ _) rfl)
            · intro a w' hx hu hd K hK; have e7 : a.tmps.getD 7 undef = (.pointer (some ⟨g13, 0, none⟩)) := hu 7 rfl; exact Flow.run1 rfl (ldrow rfl e7 (lies_block (blk_below Kg13_14_15_16.out hx)) Tryd.underlying56 rfl size56) (hK _ _ (Below.refl _ _) rfl)
            · intro a w' hx hu hd K hK; have e30 := Flow.got (hd 1 rfl) 30 rfl; exact Flow.run1 rfl (row1_59 rfl e30) (hK _ _ (below_alloc (Below.refl _ _) _) (slice_new (Nat.le_trans (HB16.out).size (hx : Below _ _ _).size)))
          intro vs W17 hb17 hT
          have v0 := Flow.eqn (hT 0 (by decide))
          have v1 := Flow.eqn (hT 1 (by decide))
          obtain ⟨g17_2, v2, hge2, hk2⟩ : SliceAt _ _ _ _ _ _ := hT 2 (by decide)
          have Kg17_2 := Aside0.mk hk2
          have Gg17_2 := Aside0.mk hge2
          clear hk2 hge2
          simp only [Flow.putsT, v0, v1, v2, Act.put, List.setIfInBounds_toArray, List.set_cons_zero, List.set_cons_succ, List.drop_succ_cons, List.drop_zero, List.take_succ_cons, List.take_zero]
          clear hT v0 v1 v2
          have HB17 := Aside0.mk (below_step HB16.out hb17)
          have HRO_17 := Aside0.mk (Kd.R_below HRO_16.out hb17)
          have HRD_17 := Aside0.mk (Kd.R_below HRD_16.out hb17)
          have HRK_17 := Aside0.mk (Kd.R_below HRK_16.out hb17)
          have Kg13_14_15_16_17 := Aside0.mk (blk_below Kg13_14_15_16.out hb17)
          clear hb17
          refine app56 (w0 := W4) (base := W4.heap.size) (g := g17_2) (x := x) (vd := .slice Ad x.data.length cd) (vk := .slice Ak x.keep.length ck) (l := acc) rfl rfl rfl rfl HRO_17.out HRD_17.out HRK_17.out Kg17_2.out HB17.out HB17.out.size (by omega) ?_
          intro v18 W18 hr18 hb18
          have HRO_18 := Aside0.mk hr18
          have HB18 := Aside0.mk hb18
          clear hr18 hb18
          simp only [Act.put, List.setIfInBounds_toArray, List.set_cons_zero, List.set_cons_succ]
          refine Flow.seqL (E := fun u v => Below u.heap.size u v) 4 1 [(some 29, []), (some 30, []), (some 31, [1]), (some 32, [0, 2]), (some 4, [3, 3, 0, 1, 2, 3])] (fun iQ vQ wQ => match iQ with | 4 => vQ = v18 | _ => True) rfl (by decide) (by kernel_rfl) (Below.refl _ _) (fun _ _ _ h k => h.trans (k.mono h.size)) (fun _ _ _ _ h _ => h) ?_ ?_
          · refine ⟨?_, trivial⟩
            · intro a w' hx hu hd K hK; have e32 : a.tmps.getD 32 undef = v18 := hu 32 rfl; exact Flow.run1 rfl (Flow.r_assign rfl e32) (hK _ _ (Below.refl _ _) rfl)
          intro vs W19 hb19 hT
          have v4 := Flow.eqn (hT 4 (by decide) (by decide))
          simp only [Flow.putsT, v4, Act.put, List.setIfInBounds_toArray, List.set_cons_zero, List.set_cons_succ, List.drop_succ_cons, List.drop_zero, List.take_succ_cons, List.take_zero]
          clear hT v4
          have HB19 := Aside0.mk (below_step HB18.out hb19)
          have HRO_19 := Aside0.mk (Kd.R_below HRO_18.out hb19)
          clear hb19
          go_upto_region 10 with fail
          refine Flow.seqT (E := fun u v => Below u.heap.size u v) [(some 33, []), (some 12, [0])] (fun iQ vQ wQ => match iQ with | 0 => vQ = (.int .i64 k1) | 1 => vQ = (.int .i64 k1) | _ => True) rfl (by kernel_rfl) (Below.refl _ _) (fun _ _ _ h k => h.trans (k.mono h.size)) (fun _ _ _ _ h _ => h) ?_ ?_
          · refine ⟨?_, ?_, trivial⟩
            · intro a w' hx hu hd K hK; have e12 : a.tmps.getD 12 undef = (.int .i64 k) := hu 12 rfl; exact Flow.run1 rfl (addk rfl e12 rfl (by omega) (by omega) (by omega)) (hK _ _ (Below.refl _ _) rfl)
            · intro a w' hx hu hd K hK; have e33 := Flow.got (hd 0 rfl) 33 rfl; exact Flow.run1 rfl (Flow.r_move rfl e33) (hK _ _ (Below.refl _ _) rfl)
          intro vs W20 hb20 hT
          have v0 := Flow.eqn (hT 0 (by decide))
          have v1 := Flow.eqn (hT 1 (by decide))
          simp only [Flow.putsT, v0, v1, Act.put, List.setIfInBounds_toArray, List.set_cons_zero, List.set_cons_succ]
          clear hT v0 v1
          have HB20 := Aside0.mk (below_step HB19.out hb20)
          have HRO_20 := Aside0.mk (Kd.R_below HRO_19.out hb20)
          clear hb20
          go_wp2
          go_roundg (n - (k + 1))
          case measure => have := HGK.out; omega
          case rel => exact ⟨k1, by omega, ⟨by omega⟩, rfl, HB20, acc ++ [x], ⟨by rw [List.length_append]; simp only [List.length_cons, List.length_nil]; omega⟩, HRO_20, ⟨by rw [← hk1, ← HRE.out, resL_step hz (by rw [HX.out]), HX.out]⟩⟩
        | false =>
          go_upto_region 7 with fail
          refine Flow.seqT (E := fun u v => Below u.heap.size u v) [(some 24, []), (some 25, [0])] (fun iQ vQ wQ => match iQ with | 0 => vQ = (.bool false) | 1 => vQ = (.bool true) | _ => True) rfl (by kernel_rfl) (Below.refl _ _) (fun _ _ _ h k => h.trans (k.mono h.size)) (fun _ _ _ _ h _ => h) ?_ ?_
          · refine ⟨?_, ?_, trivial⟩
            · intro a w' hx hu hd K hK; have e8 : a.tmps.getD 8 undef = (.bool false) := hu 8 rfl; exact Flow.run1 rfl (Flow.r_move rfl e8) (hK _ _ (Below.refl _ _) rfl)
            · intro a w' hx hu hd K hK; have e24 := Flow.got (hd 0 rfl) 24 rfl; exact Flow.run1 rfl (Flow.r_not rfl e24) (hK _ _ (Below.refl _ _) rfl)
          intro vs W21 hb21 hT
          have v0 := Flow.eqn (hT 0 (by decide))
          have v1 := Flow.eqn (hT 1 (by decide))
          simp only [Flow.putsT, v0, v1, Act.put, List.setIfInBounds_toArray, List.set_cons_zero, List.set_cons_succ]
          clear hT v0 v1
          have HB21 := Aside0.mk (below_step HB15.out hb21)
          have HRO_21 := Aside0.mk (Kd.R_below HRO_15.out hb21)
          have HRD_21 := Aside0.mk (Kd.R_below HRD_15.out hb21)
          have HRK_21 := Aside0.mk (Kd.R_below HRK_15.out hb21)
          have Kg13_14_15_21 := Aside0.mk (blk_below Kg13_14_15.out hb21)
          clear hb21
          go_upto_region 8 with fail
          refine Flow.seqT (E := fun u v => Below u.heap.size u v) [(some 26, []), (some 27, []), (some 28, [1]), (some 2, [0, 0]), (some 3, [2, 3, 0, 1, 2, 3])] (fun iQ vQ wQ => match iQ with | 0 => vQ = u4 | 1 => vQ = (.int .i64 k) | 2 => vQ = (.int .i64 k1) | 3 => vQ = u4 | 4 => vQ = (.int .i64 k1) | _ => True) rfl (by kernel_rfl) (Below.refl _ _) (fun _ _ _ h k => h.trans (k.mono h.size)) (fun _ _ _ _ h _ => h) ?_ ?_
          · refine ⟨?_, ?_, ?_, ?_, ?_, trivial⟩
            · intro a w' hx hu hd K hK; have e4 : a.tmps.getD 4 undef = u4 := hu 4 rfl; exact Flow.run1 rfl (Flow.r_move rfl e4) (hK _ _ (Below.refl _ _) rfl)
            · intro a w' hx hu hd K hK; have e5 : a.tmps.getD 5 undef = (.int .i64 k) := hu 5 rfl; exact Flow.run1 rfl (Flow.r_move rfl e5) (hK _ _ (Below.refl _ _) rfl)
            · intro a w' hx hu hd K hK; have e27 := Flow.got (hd 1 rfl) 27 rfl; exact Flow.run1 rfl (addk rfl e27 rfl (by omega) (by omega) (by omega)) (hK _ _ (Below.refl _ _) rfl)
            · intro a w' hx hu hd K hK; have e26 := Flow.got (hd 0 rfl) 26 rfl; exact Flow.run1 rfl (Flow.r_assign rfl e26) (hK _ _ (Below.refl _ _) rfl)
            · intro a w' hx hu hd K hK; have e28 := Flow.got (hd 2 rfl) 28 rfl; exact Flow.run1 rfl (Flow.r_assign rfl e28) (hK _ _ (Below.refl _ _) rfl)
          intro vs W22 hb22 hT
          have v0 := Flow.eqn (hT 0 (by decide))
          have v1 := Flow.eqn (hT 1 (by decide))
          have v2 := Flow.eqn (hT 2 (by decide))
          have v3 := Flow.eqn (hT 3 (by decide))
          have v4 := Flow.eqn (hT 4 (by decide))
          simp only [Flow.putsT, v0, v1, v2, v3, v4, Act.put, List.setIfInBounds_toArray, List.set_cons_zero, List.set_cons_succ]
          clear hT v0 v1 v2 v3 v4
          have HB22 := Aside0.mk (below_step HB21.out hb22)
          have HRO_22 := Aside0.mk (Kd.R_below HRO_21.out hb22)
          have HRD_22 := Aside0.mk (Kd.R_below HRD_21.out hb22)
          have HRK_22 := Aside0.mk (Kd.R_below HRK_21.out hb22)
          have Kg13_14_15_21_22 := Aside0.mk (blk_below Kg13_14_15_21.out hb22)
          clear hb22
          obtain rfl : r = (acc, (k1 : Int)) := by rw [← hk1]; exact HRE.out.symm.trans (resL_bad hz (by rw [HX.out]))
          go_wp2_with fail
          exact bodyPost_ret (results_tmp2 Tryd.results30 _ _ _) rfl ⟨_, rfl, Kd.R_lower HRO_22.out HB4.out.size, below_step HB4.out HB22.out⟩
    · have hlt2 : ¬ (k : Int) < n := by omega
      go_upto_region 3 with fail
      refine Flow.seqT (E := fun u v => Below u.heap.size u v) [(some 13, [])] (fun iQ vQ wQ => match iQ with | 0 => vQ = (.bool false) | _ => True) rfl (by kernel_rfl) (Below.refl _ _) (fun _ _ _ h k => h.trans (k.mono h.size)) (fun _ _ _ _ h _ => h) ?_ ?_
      · refine ⟨?_, trivial⟩
        · intro a w' hx hu hd K hK; have e12 : a.tmps.getD 12 undef = (.int .i64 k) := hu 12 rfl; have e11 : a.tmps.getD 11 undef = (.int .i64 n) := hu 11 rfl; exact Flow.run1 rfl (no (lss rfl e12 e11) (decide_eq_false hlt2)) (hK _ _ (Below.refl _ _) rfl)
      intro vs W23 hb23 hT
      have v0 := Flow.eqn (hT 0 (by decide))
      simp only [Flow.putsT, v0, Act.put, List.setIfInBounds_toArray, List.set_cons_zero, List.set_cons_succ]
      clear hT v0
      have HB23 := Aside0.mk (below_step HBR.out hb23)
      have HRO_23 := Aside0.mk (Kd.R_below HRO.out hb23)
      clear hb23
      go_upto_region 11 with fail
      refine Flow.seqT (E := fun u v => Below u.heap.size u v) [(some 34, []), (some 2, [0, 0]), (some 3, [1, 0, 1])] (fun iQ vQ wQ => match iQ with | 0 => vQ = u4 | 1 => vQ = u4 | 2 => vQ = (.int .i64 0) | _ => True) rfl (by kernel_rfl) (Below.refl _ _) (fun _ _ _ h k => h.trans (k.mono h.size)) (fun _ _ _ _ h _ => h) ?_ ?_
      · refine ⟨?_, ?_, ?_, trivial⟩
        · intro a w' hx hu hd K hK; have e4 : a.tmps.getD 4 undef = u4 := hu 4 rfl; exact Flow.run1 rfl (Flow.r_move rfl e4) (hK _ _ (Below.refl _ _) rfl)
        · intro a w' hx hu hd K hK; have e34 := Flow.got (hd 0 rfl) 34 rfl; exact Flow.run1 rfl (Flow.r_assign rfl e34) (hK _ _ (Below.refl _ _) rfl)
        · intro a w' hx hu hd K hK; exact Flow.run1 rfl (Flow.r_assign rfl rfl) (hK _ _ (Below.refl _ _) rfl)
      intro vs W24 hb24 hT
      have v0 := Flow.eqn (hT 0 (by decide))
      have v1 := Flow.eqn (hT 1 (by decide))
      have v2 := Flow.eqn (hT 2 (by decide))
      simp only [Flow.putsT, v0, v1, v2, Act.put, List.setIfInBounds_toArray, List.set_cons_zero, List.set_cons_succ]
      clear hT v0 v1 v2
      have HB24 := Aside0.mk (below_step HB23.out hb24)
      have HRO_24 := Aside0.mk (Kd.R_below HRO_23.out hb24)
      clear hb24
      obtain rfl : r = (acc, 0) := by rw [← HRES.out, List.drop_eq_nil_of_le (by have := HLN.out; omega)]; rfl
      go_wp2_with fail
      exact bodyPost_ret (results_tmp2 Tryd.results30 _ _ _) rfl ⟨_, rfl, Kd.R_lower HRO_24.out HB4.out.size, below_step HB4.out HB24.out⟩
set_option maxHeartbeats 4000000 in
set_option maxRecDepth 100000 in
theorem rlines_c (s : ByteArray) (hs : s.size ≤ 1000000) (w : World) (r : List A10 × Int) (HR : Aside0 (resL hexF (linesB s.data.toList) 0 [] = r)) : Calls Tryd.prog 31 #[.string s] w (LinesPost w r) := by
  go_enter Tryd.func31, Tryd.ntmps31
  go_upto_region 0 with fail
  refine Flow.seqT (E := fun u v => Below u.heap.size u v) [(some 2, []), (some 3, [0])] (fun iQ vQ wQ => match iQ with | 0 => vQ = (.slice none 0 0) | 1 => vQ = (.int .i64 0) | _ => True) rfl (by kernel_rfl) (Below.refl _ _) (fun _ _ _ h k => h.trans (k.mono h.size)) (fun _ _ _ _ h _ => h) ?_ ?_
  · refine ⟨?_, ?_, trivial⟩
    · intro a w' hx hu hd K hK; exact Flow.run1 rfl (Flow.r_assign rfl rfl) (hK _ _ (Below.refl _ _) rfl)
    · intro a w' hx hu hd K hK; exact Flow.run1 rfl (Flow.r_assign rfl rfl) (hK _ _ (Below.refl _ _) rfl)
  intro vs W1 hb1 hT
  have v0 := Flow.eqn (hT 0 (by decide))
  have v1 := Flow.eqn (hT 1 (by decide))
  simp only [Flow.putsT, v0, v1, Act.put, List.setIfInBounds_toArray, List.set_cons_zero, List.set_cons_succ]
  clear hT v0 v1
  have HB1 := Aside0.mk hb1
  clear hb1
  go_upto_region 1 with fail
  refine Flow.seqT (E := fun u v => Below u.heap.size u v) [(some 4, [])] (fun iQ vQ wQ => match iQ with | 0 => vQ = (.slice none 0 0) | _ => True) rfl (by kernel_rfl) (Below.refl _ _) (fun _ _ _ h k => h.trans (k.mono h.size)) (fun _ _ _ _ h _ => h) ?_ ?_
  · refine ⟨?_, trivial⟩
    · intro a w' hx hu hd K hK; exact Flow.run1 rfl (Flow.r_assign rfl rfl) (hK _ _ (Below.refl _ _) rfl)
  intro vs W2 hb2 hT
  have v0 := Flow.eqn (hT 0 (by decide))
  simp only [Flow.putsT, v0, Act.put, List.setIfInBounds_toArray, List.set_cons_zero, List.set_cons_succ]
  clear hT v0
  have HB2 := Aside0.mk (below_step HB1.out hb2)
  clear hb2
  go_upto_region 2 with fail
  refine Flow.seqT (E := fun u v => Below u.heap.size u v) [(some 5, []), (some 6, [0, 0])] (fun iQ vQ wQ => match iQ with | 0 => vQ = (.string ⟨#[]⟩) | 1 => vQ = (.int .i64 1) | _ => True) rfl (by kernel_rfl) (Below.refl _ _) (fun _ _ _ h k => h.trans (k.mono h.size)) (fun _ _ _ _ h _ => h) ?_ ?_
  · refine ⟨?_, ?_, trivial⟩
    · intro a w' hx hu hd K hK; exact Flow.run1 rfl (Flow.r_assign rfl rfl) (hK _ _ (Below.refl _ _) rfl)
    · intro a w' hx hu hd K hK; exact Flow.run1 rfl (Flow.r_assign rfl rfl) (hK _ _ (Below.refl _ _) rfl)
  intro vs W3 hb3 hT
  have v0 := Flow.eqn (hT 0 (by decide))
  have v1 := Flow.eqn (hT 1 (by decide))
  simp only [Flow.putsT, v0, v1, Act.put, List.setIfInBounds_toArray, List.set_cons_zero, List.set_cons_succ]
  clear hT v0 v1
  have HB3 := Aside0.mk (below_step HB2.out hb3)
  clear hb3
  go_upto_region 3 with fail
  refine Flow.seqT (E := fun u v => Below u.heap.size u v) [(some 7, [])] (fun iQ vQ wQ => match iQ with | 0 => vQ = (.int .i64 0) | _ => True) rfl (by kernel_rfl) (Below.refl _ _) (fun _ _ _ h k => h.trans (k.mono h.size)) (fun _ _ _ _ h _ => h) ?_ ?_
  · refine ⟨?_, trivial⟩
    · intro a w' hx hu hd K hK; exact Flow.run1 rfl (Flow.r_assign rfl rfl) (hK _ _ (Below.refl _ _) rfl)
  intro vs W4 hb4 hT
  have v0 := Flow.eqn (hT 0 (by decide))
  simp only [Flow.putsT, v0, Act.put, List.setIfInBounds_toArray, List.set_cons_zero, List.set_cons_succ]
  clear hT v0
  have HB4 := Aside0.mk (below_step HB3.out hb4)
  clear hb4
  go_wp2
  go_loopg [4, 5, 6, 7] (s.size + 1) (fun g v4 v5 v6 v7 wr => ∃ i k k1 : Nat, ∃ cur : ByteArray, i ≤ s.size + 1 ∧ Aside0 (g = s.size + 1 - i) ∧ Aside0 (k + 1 = k1 ∧ k ≤ i ∧ cur.size ≤ i) ∧ v5 = .string cur ∧ v6 = .int .i64 k1 ∧ v7 = .int .i64 i ∧ Aside0 (Below w.heap.size w wr) ∧ ∃ acc : List A10, Aside0 (acc.length ≤ k) ∧ Aside0 (k56.R 56 wr w.heap.size (fun _ => True) v4 (acc.map toS)) ∧ Aside0 (resL hexF (restL s i cur) k acc = r))
  case atStart => exact ⟨0, 0, 1, ByteArray.empty, Nat.zero_le _, ⟨rfl⟩, ⟨rfl, Nat.le_refl _, Nat.le_refl _⟩, rfl, rfl, rfl, HB4, [], ⟨Nat.le_refl _⟩, ⟨Kd.R_nil _ _ _ _ _⟩, ⟨by unfold restL; rw [if_pos (Nat.zero_le _), List.drop_zero, att_nil]; exact HR.out⟩⟩
  case round =>
    clear HB4
    obtain ⟨i, k, k1, cur, hi, HGI, HK, rfl, rfl, rfl, HBR, acc, HAC, HRO, HRES⟩ := hrel
    have hk1 := HK.out.1
    have hki := HK.out.2.1
    have hac := HAC.out
    have hcs := HK.out.2.2
    obtain ⟨i1, HI1⟩ : ∃ q, Aside0 (i + 1 = q) := ⟨_, ⟨rfl⟩⟩
    have hi1 := HI1.out
    obtain ⟨k2, HK2⟩ : ∃ q, Aside0 (k1 + 1 = q) := ⟨_, ⟨rfl⟩⟩
    have hk2 := HK2.out
    by_cases hle : i ≤ s.size
    · have hle2 : (i : Int) ≤ s.size := by omega
      have hcz : cur.size ≤ 1000000 := by omega
      go_upto_region 4 with fail
      refine Flow.seqT (E := fun u v => Below u.heap.size u v) [(some 10, []), (some 11, []), (some 12, [1]), (some 13, [0, 2])] (fun iQ vQ wQ => match iQ with | 0 => vQ = (.int .i64 i) | 1 => vQ = (.string s) | 2 => vQ = (.int .i64 ((s).size)) | 3 => vQ = (.bool true) | _ => True) rfl (by kernel_rfl) (Below.refl _ _) (fun _ _ _ h k => h.trans (k.mono h.size)) (fun _ _ _ _ h _ => h) ?_ ?_
      · refine ⟨?_, ?_, ?_, ?_, trivial⟩
        · intro a w' hx hu hd K hK; have e7 : a.tmps.getD 7 undef = (.int .i64 i) := hu 7 rfl; exact Flow.run1 rfl (Flow.r_move rfl e7) (hK _ _ (Below.refl _ _) rfl)
        · intro a w' hx hu hd K hK; have e0 : a.tmps.getD 0 undef = (.string s) := hu 0 rfl; exact Flow.run1 rfl (Flow.r_move rfl e0) (hK _ _ (Below.refl _ _) rfl)
        · intro a w' hx hu hd K hK; have e11 := Flow.got (hd 1 rfl) 11 rfl; exact Flow.run1 rfl (lenS Tryd.underlying9 rfl e11) (hK _ _ (Below.refl _ _) rfl)
        · intro a w' hx hu hd K hK; have e10 := Flow.got (hd 0 rfl) 10 rfl; have e12 := Flow.got (hd 2 rfl) 12 rfl; exact Flow.run1 rfl (yes (leq rfl e10 e12) (decide_eq_true hle2)) (hK _ _ (Below.refl _ _) rfl)
      intro vs W5 hb5 hT
      have v0 := Flow.eqn (hT 0 (by decide))
      have v1 := Flow.eqn (hT 1 (by decide))
      have v2 := Flow.eqn (hT 2 (by decide))
      have v3 := Flow.eqn (hT 3 (by decide))
      simp only [Flow.putsT, v0, v1, v2, v3, Act.put, List.setIfInBounds_toArray, List.set_cons_zero, List.set_cons_succ]
      clear hT v0 v1 v2 v3
      have HB5 := Aside0.mk (below_step HBR.out hb5)
      have HRO_5 := Aside0.mk (Kd.R_below HRO.out hb5)
      clear hb5
      by_cases hlt : i < s.size
      · have hlt2 : (i : Int) < s.size := by omega
        obtain ⟨bc, HBC⟩ : ∃ q, Aside0 (bt s i = q) := ⟨_, ⟨rfl⟩⟩
        by_cases hbc : bc = 10
        · have HBE := Aside0.mk hbc
          clear hbc
          go_upto_region 6 with fail
          refine Flow.seqT (E := fun u v => Below u.heap.size u v) [(some 16, []), (some 17, []), (some 18, [1]), (some 19, [0, 2]), (some 20, [3]), (some 21, [4]), (some 22, [4]), (some 23, [5, 6, 4]), (some 24, [7, 4]), (some 25, [4, 8])] (fun iQ vQ wQ => match iQ with | 0 => vQ = (.int .i64 i) | 1 => vQ = (.string s) | 2 => vQ = (.int .i64 ((s).size)) | 3 => vQ = (.bool true) | 4 => vQ = (.bool true) | 5 => vQ = (.string s) | 6 => vQ = (.int .i64 i) | 7 => vQ = (.int .u8 bc) | 8 => vQ = (.bool false) | 9 => vQ = (.bool false) | _ => True) rfl (by kernel_rfl) (Below.refl _ _) (fun _ _ _ h k => h.trans (k.mono h.size)) (fun _ _ _ _ h _ => h) ?_ ?_
          · refine ⟨?_, ?_, ?_, ?_, ?_, ?_, ?_, ?_, ?_, ?_, trivial⟩
            · intro a w' hx hu hd K hK; have e7 : a.tmps.getD 7 undef = (.int .i64 i) := hu 7 rfl; exact Flow.run1 rfl (Flow.r_move rfl e7) (hK _ _ (Below.refl _ _) rfl)
            · intro a w' hx hu hd K hK; have e0 : a.tmps.getD 0 undef = (.string s) := hu 0 rfl; exact Flow.run1 rfl (Flow.r_move rfl e0) (hK _ _ (Below.refl _ _) rfl)
            · intro a w' hx hu hd K hK; have e17 := Flow.got (hd 1 rfl) 17 rfl; exact Flow.run1 rfl (lenS Tryd.underlying9 rfl e17) (hK _ _ (Below.refl _ _) rfl)
            · intro a w' hx hu hd K hK; have e16 := Flow.got (hd 0 rfl) 16 rfl; have e18 := Flow.got (hd 2 rfl) 18 rfl; exact Flow.run1 rfl (yes (lss rfl e16 e18) (decide_eq_true hlt2)) (hK _ _ (Below.refl _ _) rfl)
            · intro a w' hx hu hd K hK; have e19 := Flow.got (hd 3 rfl) 19 rfl; exact Flow.run1 rfl (Flow.r_move rfl e19) (hK _ _ (Below.refl _ _) rfl)
            · intro a w' hx hu hd K hK; have e0 : a.tmps.getD 0 undef = (.string s) := hu 0 rfl; have e20 := Flow.got (hd 4 rfl) 20 rfl; exact Flow.run1 (Flow.want_of (k := 20) rfl e20) (Flow.r_move rfl e0) (hK _ _ (Below.refl _ _) rfl)
            · intro a w' hx hu hd K hK; have e7 : a.tmps.getD 7 undef = (.int .i64 i) := hu 7 rfl; have e20 := Flow.got (hd 4 rfl) 20 rfl; exact Flow.run1 (Flow.want_of (k := 20) rfl e20) (Flow.r_move rfl e7) (hK _ _ (Below.refl _ _) rfl)
            · intro a w' hx hu hd K hK; have e21 := Flow.got (hd 5 rfl) 21 rfl; have e22 := Flow.got (hd 6 rfl) 22 rfl; have e20 := Flow.got (hd 4 rfl) 20 rfl; exact Flow.run1 (Flow.want_of (k := 20) rfl e20) (HBC.out ▸ strix Tryd.underlying9 rfl e21 e22 (by omega) hlt2) (hK _ _ (Below.refl _ _) rfl)
            · intro a w' hx hu hd K hK; have e23 := Flow.got (hd 7 rfl) 23 rfl; have e20 := Flow.got (hd 4 rfl) 20 rfl; exact Flow.run1 (Flow.want_of (k := 20) rfl e20) (no (neq rfl e23 rfl) (bne_eq_false_iff_eq.2 HBE.out)) (hK _ _ (Below.refl _ _) rfl)
            · intro a w' hx hu hd K hK; have e20 := Flow.got (hd 4 rfl) 20 rfl; have e24 := Flow.got (hd 8 rfl) 24 rfl; exact Flow.run1 rfl (Flow.r_pick rfl e20 e24) (hK _ _ (Below.refl _ _) rfl)
          intro vs W6 hb6 hT
          have v0 := Flow.eqn (hT 0 (by decide))
          have v1 := Flow.eqn (hT 1 (by decide))
          have v2 := Flow.eqn (hT 2 (by decide))
          have v3 := Flow.eqn (hT 3 (by decide))
          have v4 := Flow.eqn (hT 4 (by decide))
          have v5 := Flow.eqn (hT 5 (by decide))
          have v6 := Flow.eqn (hT 6 (by decide))
          have v7 := Flow.eqn (hT 7 (by decide))
          have v8 := Flow.eqn (hT 8 (by decide))
          have v9 := Flow.eqn (hT 9 (by decide))
          simp only [Flow.putsT, v0, v1, v2, v3, v4, v5, v6, v7, v8, v9, Act.put, List.setIfInBounds_toArray, List.set_cons_zero, List.set_cons_succ]
          clear hT v0 v1 v2 v3 v4 v5 v6 v7 v8 v9
          have HB6 := Aside0.mk (below_step HB5.out hb6)
          have HRO_6 := Aside0.mk (Kd.R_below HRO_5.out hb6)
          clear hb6
          have HRE := Aside0.mk (HRES.out)
          rw [restL_line hle cur (fun _ => HBC.out.trans HBE.out), hi1] at HRE
          by_cases hz : cur.size = 0
          · have HZE := Aside0.mk (nemptyB (b := false) (decide_eq_true hz))
            go_upto_region 8 with fail
            refine Flow.seqT (E := fun u v => Below u.heap.size u v) [(some 33, []), (some 34, [0])] (fun iQ vQ wQ => match iQ with | 0 => vQ = (.string cur) | 1 => vQ = (.bool false) | _ => True) rfl (by kernel_rfl) (Below.refl _ _) (fun _ _ _ h k => h.trans (k.mono h.size)) (fun _ _ _ _ h _ => h) ?_ ?_
            · refine ⟨?_, ?_, trivial⟩
              · intro a w' hx hu hd K hK; have e5 : a.tmps.getD 5 undef = (.string cur) := hu 5 rfl; exact Flow.run1 rfl (Flow.r_move rfl e5) (hK _ _ (Below.refl _ _) rfl)
              · intro a w' hx hu hd K hK; have e33 := Flow.got (hd 0 rfl) 33 rfl; exact Flow.run1 rfl (sneq rfl e33 rfl HZE.out) (hK _ _ (Below.refl _ _) rfl)
            intro vs W7 hb7 hT
            have v0 := Flow.eqn (hT 0 (by decide))
            have v1 := Flow.eqn (hT 1 (by decide))
            simp only [Flow.putsT, v0, v1, Act.put, List.setIfInBounds_toArray, List.set_cons_zero, List.set_cons_succ]
            clear hT v0 v1
            have HB7 := Aside0.mk (below_step HB6.out hb7)
            have HRO_7 := Aside0.mk (Kd.R_below HRO_6.out hb7)
            clear hb7
            go_upto_region 13 with fail
            refine Flow.seqT (E := fun u v => Below u.heap.size u v) [(some 5, [])] (fun iQ vQ wQ => match iQ with | 0 => vQ = (.string ⟨#[]⟩) | _ => True) rfl (by kernel_rfl) (Below.refl _ _) (fun _ _ _ h k => h.trans (k.mono h.size)) (fun _ _ _ _ h _ => h) ?_ ?_
            · refine ⟨?_, trivial⟩
              · intro a w' hx hu hd K hK; exact Flow.run1 rfl (Flow.r_assign rfl rfl) (hK _ _ (Below.refl _ _) rfl)
            intro vs W8 hb8 hT
            have v0 := Flow.eqn (hT 0 (by decide))
            simp only [Flow.putsT, v0, Act.put, List.setIfInBounds_toArray, List.set_cons_zero, List.set_cons_succ]
            clear hT v0
            have HB8 := Aside0.mk (below_step HB7.out hb8)
            have HRO_8 := Aside0.mk (Kd.R_below HRO_7.out hb8)
            clear hb8
            go_upto_region 14 with fail
            refine Flow.seqT (E := fun u v => Below u.heap.size u v) [(some 48, []), (some 49, [0]), (some 6, [1, 0, 1])] (fun iQ vQ wQ => match iQ with | 0 => vQ = (.int .i64 k1) | 1 => vQ = (.int .i64 k2) | 2 => vQ = (.int .i64 k2) | _ => True) rfl (by kernel_rfl) (Below.refl _ _) (fun _ _ _ h k => h.trans (k.mono h.size)) (fun _ _ _ _ h _ => h) ?_ ?_
            · refine ⟨?_, ?_, ?_, trivial⟩
              · intro a w' hx hu hd K hK; have e6 : a.tmps.getD 6 undef = (.int .i64 k1) := hu 6 rfl; exact Flow.run1 rfl (Flow.r_move rfl e6) (hK _ _ (Below.refl _ _) rfl)
              · intro a w' hx hu hd K hK; have e48 := Flow.got (hd 0 rfl) 48 rfl; exact Flow.run1 rfl (addk rfl e48 rfl (by omega) (by omega) (by omega)) (hK _ _ (Below.refl _ _) rfl)
              · intro a w' hx hu hd K hK; have e49 := Flow.got (hd 1 rfl) 49 rfl; exact Flow.run1 rfl (Flow.r_assign rfl e49) (hK _ _ (Below.refl _ _) rfl)
            intro vs W9 hb9 hT
            have v0 := Flow.eqn (hT 0 (by decide))
            have v1 := Flow.eqn (hT 1 (by decide))
            have v2 := Flow.eqn (hT 2 (by decide))
            simp only [Flow.putsT, v0, v1, v2, Act.put, List.setIfInBounds_toArray, List.set_cons_zero, List.set_cons_succ]
            clear hT v0 v1 v2
            have HB9 := Aside0.mk (below_step HB8.out hb9)
            have HRO_9 := Aside0.mk (Kd.R_below HRO_8.out hb9)
            clear hb9
            go_upto_region 5 with fail
            refine Flow.seqT (E := fun u v => Below u.heap.size u v) [(some 14, []), (some 15, [0]), (some 7, [1, 0, 1])] (fun iQ vQ wQ => match iQ with | 0 => vQ = (.int .i64 i) | 1 => vQ = (.int .i64 i1) | 2 => vQ = (.int .i64 i1) | _ => True) rfl (by kernel_rfl) (Below.refl _ _) (fun _ _ _ h k => h.trans (k.mono h.size)) (fun _ _ _ _ h _ => h) ?_ ?_
            · refine ⟨?_, ?_, ?_, trivial⟩
              · intro a w' hx hu hd K hK; have e7 : a.tmps.getD 7 undef = (.int .i64 i) := hu 7 rfl; exact Flow.run1 rfl (Flow.r_move rfl e7) (hK _ _ (Below.refl _ _) rfl)
              · intro a w' hx hu hd K hK; have e14 := Flow.got (hd 0 rfl) 14 rfl; exact Flow.run1 rfl (addk rfl e14 rfl (by omega) (by omega) (by omega)) (hK _ _ (Below.refl _ _) rfl)
              · intro a w' hx hu hd K hK; have e15 := Flow.got (hd 1 rfl) 15 rfl; exact Flow.run1 rfl (Flow.r_assign rfl e15) (hK _ _ (Below.refl _ _) rfl)
            intro vs W10 hb10 hT
            have v0 := Flow.eqn (hT 0 (by decide))
            have v1 := Flow.eqn (hT 1 (by decide))
            have v2 := Flow.eqn (hT 2 (by decide))
            simp only [Flow.putsT, v0, v1, v2, Act.put, List.setIfInBounds_toArray, List.set_cons_zero, List.set_cons_succ]
            clear hT v0 v1 v2
            have HB10 := Aside0.mk (below_step HB9.out hb10)
            have HRO_10 := Aside0.mk (Kd.R_below HRO_9.out hb10)
            clear hb10
            go_wp2
            go_roundg (s.size + 1 - (i + 1))
            case measure => have := HGI.out; omega
            case rel => exact ⟨i1, k1, k2, _, by omega, ⟨by omega⟩, ⟨hk2, by omega, Nat.zero_le _⟩, rfl, rfl, rfl, HB10, acc, ⟨by omega⟩, HRO_10, ⟨by rw [← HRE.out, resL_empty hz, hk1]; rfl⟩⟩
          · have HZE := Aside0.mk (nemptyB (b := true) (decide_eq_false hz))
            obtain ⟨⟨x, ok⟩, HX⟩ : ∃ q, Aside0 (parse hexF cur = q) := ⟨_, ⟨rfl⟩⟩
            go_upto_region 8 with fail
            refine Flow.seqT (E := fun u v => Below u.heap.size u v) [(some 33, []), (some 34, [0])] (fun iQ vQ wQ => match iQ with | 0 => vQ = (.string cur) | 1 => vQ = (.bool true) | _ => True) rfl (by kernel_rfl) (Below.refl _ _) (fun _ _ _ h k => h.trans (k.mono h.size)) (fun _ _ _ _ h _ => h) ?_ ?_
            · refine ⟨?_, ?_, trivial⟩
              · intro a w' hx hu hd K hK; have e5 : a.tmps.getD 5 undef = (.string cur) := hu 5 rfl; exact Flow.run1 rfl (Flow.r_move rfl e5) (hK _ _ (Below.refl _ _) rfl)
              · intro a w' hx hu hd K hK; have e33 := Flow.got (hd 0 rfl) 33 rfl; exact Flow.run1 rfl (sneq rfl e33 rfl HZE.out) (hK _ _ (Below.refl _ _) rfl)
            intro vs W11 hb11 hT
            have v0 := Flow.eqn (hT 0 (by decide))
            have v1 := Flow.eqn (hT 1 (by decide))
            simp only [Flow.putsT, v0, v1, Act.put, List.setIfInBounds_toArray, List.set_cons_zero, List.set_cons_succ]
            clear hT v0 v1
            have HB11 := Aside0.mk (below_step HB6.out hb11)
            have HRO_11 := Aside0.mk (Kd.R_below HRO_6.out hb11)
            clear hb11
            go_upto_region 9 with fail
            refine Flow.seqT_head (E := fun u v => Below u.heap.size u v) 2 [(some 36, []), (some 37, [0]), (some 35, [1]), (some 38, [2]), (some 39, [2]), (some 8, []), (none, [5, 3, 1, 0, 1, 2, 3, 5]), (some 9, [4, 6, 0, 1, 2, 3, 4, 5, 6])] (fun iQ vQ wQ => match iQ with | 0 => vQ = (.string cur) | 1 => PV x ok w.heap.size vQ wQ | _ => True) rfl (by decide) (by kernel_rfl) (Below.refl _ _) (fun _ _ _ h k => h.trans (k.mono h.size)) (fun iQ vQ w1Q w2Q hQ hEQ => match iQ, hQ with | 0, hQ => hQ | 1, hQ => hQ.below hEQ | _ + 2, _ => trivial) ?_ ?_
            · refine ⟨?_, ?_, trivial⟩
              · intro a w' hx hu hd K hK; have e5 : a.tmps.getD 5 undef = (.string cur) := hu 5 rfl; exact Flow.run1 rfl (Flow.r_move rfl e5) (hK _ _ (Below.refl _ _) rfl)
              · intro a w' hx hu hd K hK; have e36 := Flow.got (hd 0 rfl) 36 rfl; refine Flow.want rfl ?_; refine Flow.val_call rfl Tryd.func29 (by kernel_rfl) rfl (by first | (simp only [List.map_toArray, List.map_cons, List.map_nil, Act.eval, e36]; done) | (simp only [List.map_toArray, List.map_cons, List.map_nil, Act.eval, e36]; rfl)) (rparse_all cur (by omega) w') ?_; rintro e w2 ⟨vd, vk, rfl, hR1, hR2, hb2⟩; exact ⟨_, rfl, hK _ _ hb2 (HX.out ▸ (⟨vd, vk, rfl, Kd.R_lower hR1 (below_step HB11.out hx).size, Kd.R_lower hR2 (below_step HB11.out hx).size⟩ : PV _ _ _ _ _))⟩
            intro vs W12 hb12 hT
            have v0 := Flow.eqn (hT 0 (by decide))
            obtain ⟨vd, vk, v1, hRd, hRk⟩ : PV x ok _ _ _ := hT 1 (by decide)
            obtain ⟨Ad, cd, rfl, -, -⟩ := Kd.R_reads hRd
            obtain ⟨Ak, ck, rfl, -, -⟩ := Kd.R_reads hRk
            have HRD := Aside0.mk hRd
            have HRK := Aside0.mk hRk
            clear hRd hRk
            simp only [Flow.putsT, v0, v1, Act.put, List.setIfInBounds_toArray, List.set_cons_zero, List.set_cons_succ, List.drop_succ_cons, List.drop_zero, List.take_succ_cons, List.take_zero]
            clear hT v0 v1
            have HB12 := Aside0.mk (below_step HB11.out hb12)
            have HRO_12 := Aside0.mk (Kd.R_below HRO_11.out hb12)
            clear hb12
            refine Flow.seqL (E := fun u v => Below u.heap.size u v) 2 3 [(some 36, []), (some 37, [0]), (some 35, [1]), (some 38, [2]), (some 39, [2]), (some 8, []), (none, [5, 3, 1, 0, 1, 2, 3, 5]), (some 9, [4, 6, 0, 1, 2, 3, 4, 5, 6])] (fun iQ vQ wQ => match iQ with | 2 => vQ = (.tuple #[.agg #[.int .i64 x.kind, .int .i64 x.cmd, .int .i64 x.zone, .int .i64 x.at_, .int .i64 x.n, .slice Ad x.data.length cd, .bool x.fua, .int .i64 x.m, .int .i64 x.k, .slice Ak x.keep.length ck], .bool ok]) | 3 => vQ = (.agg #[.int .i64 x.kind, .int .i64 x.cmd, .int .i64 x.zone, .int .i64 x.at_, .int .i64 x.n, .slice Ad x.data.length cd, .bool x.fua, .int .i64 x.m, .int .i64 x.k, .slice Ak x.keep.length ck]) | 4 => vQ = (.bool ok) | _ => True) rfl (by decide) (by kernel_rfl) (Below.refl _ _) (fun _ _ _ h k => h.trans (k.mono h.size)) (fun _ _ _ _ h _ => h) ?_ ?_
            · refine ⟨?_, ?_, ?_, trivial⟩
              · intro a w' hx hu hd K hK; have e37 : a.tmps.getD 37 undef = (.tuple #[.agg #[.int .i64 x.kind, .int .i64 x.cmd, .int .i64 x.zone, .int .i64 x.at_, .int .i64 x.n, .slice Ad x.data.length cd, .bool x.fua, .int .i64 x.m, .int .i64 x.k, .slice Ak x.keep.length ck], .bool ok]) := hu 37 rfl; exact Flow.run1 rfl (Flow.r_move rfl e37) (hK _ _ (Below.refl _ _) rfl)
              · intro a w' hx hu hd K hK; have e35 := Flow.got (hd 2 rfl) 35 rfl; exact Flow.run1 rfl (extr rfl e35 rfl) (hK _ _ (Below.refl _ _) rfl)
              · intro a w' hx hu hd K hK; have e35 := Flow.got (hd 2 rfl) 35 rfl; exact Flow.run1 rfl (extr rfl e35 rfl) (hK _ _ (Below.refl _ _) rfl)
            intro vs W13 hb13 hT
            have v2 := Flow.eqn (hT 2 (by decide) (by decide))
            have v3 := Flow.eqn (hT 3 (by decide) (by decide))
            have v4 := Flow.eqn (hT 4 (by decide) (by decide))
            simp only [Flow.putsT, v2, v3, v4, Act.put, List.setIfInBounds_toArray, List.set_cons_zero, List.set_cons_succ, List.drop_succ_cons, List.drop_zero, List.take_succ_cons, List.take_zero]
            clear hT v2 v3 v4
            have HB13 := Aside0.mk (below_step HB12.out hb13)
            have HRO_13 := Aside0.mk (Kd.R_below HRO_12.out hb13)
            have HRD_13 := Aside0.mk (Kd.R_below HRD.out hb13)
            have HRK_13 := Aside0.mk (Kd.R_below HRK.out hb13)
            clear hb13
            refine ealloc rfl rfl zero56_is ?_
            intro g14 hg14 W14 hk14 hb14
            have Kg14 := Aside0.mk hk14
            have HRO_e14 := Aside0.mk (Kd.R_elderB HRO_13.out g14 (by rw [hg14]; exact Nat.le_refl _))
            have HB14 := Aside0.mk (below_step HB13.out hb14)
            have HRO_14 := Aside0.mk (Kd.R_below HRO_e14.out hb14)
            have HRD_14 := Aside0.mk (Kd.R_below HRD_13.out hb14)
            have HRK_14 := Aside0.mk (Kd.R_below HRK_13.out hb14)
            clear hb14
            have Gg14 := Aside0.mk (show w.heap.size ≤ g14 by rw [hg14]; exact HB13.out.size)
            clear hg14 hk14
            simp only [Act.put, List.setIfInBounds_toArray, List.set_cons_zero, List.set_cons_succ]
            refine Cells.store_whole rfl rfl 56 _ _ rfl g14 [.int .i64 x.kind, .int .i64 x.cmd, .int .i64 x.zone, .int .i64 x.at_, .int .i64 x.n, .slice Ad x.data.length cd, .bool x.fua, .int .i64 x.m, .int .i64 x.k, .slice Ak x.keep.length ck] #[.int .i64 0, .int .i64 0, .int .i64 0, .int .i64 0, .int .i64 0, .slice none 0 0, .bool false, .int .i64 0, .int .i64 0, .slice none 0 0] rfl rfl Kg14.out rfl size56 rfl ?_
            intro W15 hk15 hf15 hb15
            have HRO_15 := Aside0.mk (R_far_ne HRO_14.out hf15)
            have HRD_15 := Aside0.mk (R_far HRD_14.out Kg14.out (by decide) hf15)
            have HRK_15 := Aside0.mk (R_far HRK_14.out Kg14.out (by decide) hf15)
            have HB15 := Aside0.mk (HB14.out.trans (hb15 _ Gg14.out))
            have Kg14_15 := Aside0.mk hk15
            clear hk15 hf15 hb15
            refine Flow.seqL (E := fun u v => Below u.heap.size u v) 7 1 [(some 36, []), (some 37, [0]), (some 35, [1]), (some 38, [2]), (some 39, [2]), (some 8, []), (none, [5, 3, 1, 0, 1, 2, 3, 5]), (some 9, [4, 6, 0, 1, 2, 3, 4, 5, 6])] (fun iQ vQ wQ => match iQ with | 7 => vQ = (.bool ok) | _ => True) rfl (by decide) (by kernel_rfl) (Below.refl _ _) (fun _ _ _ h k => h.trans (k.mono h.size)) (fun _ _ _ _ h _ => h) ?_ ?_
            · refine ⟨?_, trivial⟩
              · intro a w' hx hu hd K hK; have e39 : a.tmps.getD 39 undef = (.bool ok) := hu 39 rfl; exact Flow.run1 rfl (Flow.r_assign rfl e39) (hK _ _ (Below.refl _ _) rfl)
            intro vs W16 hb16 hT
            have v7 := Flow.eqn (hT 7 (by decide) (by decide))
            simp only [Flow.putsT, v7, Act.put, List.setIfInBounds_toArray, List.set_cons_zero, List.set_cons_succ, List.drop_succ_cons, List.drop_zero, List.take_succ_cons, List.take_zero]
            clear hT v7
            have HB16 := Aside0.mk (below_step HB15.out hb16)
            have HRO_16 := Aside0.mk (Kd.R_below HRO_15.out hb16)
            have HRD_16 := Aside0.mk (Kd.R_below HRD_15.out hb16)
            have HRK_16 := Aside0.mk (Kd.R_below HRK_15.out hb16)
            have Kg14_15_16 := Aside0.mk (blk_below Kg14_15.out hb16)
            clear hb16
            cases ok with
            | true =>
              go_upto_region 10 with fail
              refine Flow.seqT (E := fun u v => Below u.heap.size u v) [(some 40, []), (some 41, [0])] (fun iQ vQ wQ => match iQ with | 0 => vQ = (.bool true) | 1 => vQ = (.bool false) | _ => True) rfl (by kernel_rfl) (Below.refl _ _) (fun _ _ _ h k => h.trans (k.mono h.size)) (fun _ _ _ _ h _ => h) ?_ ?_
              · refine ⟨?_, ?_, trivial⟩
                · intro a w' hx hu hd K hK; have e9 : a.tmps.getD 9 undef = (.bool true) := hu 9 rfl; exact Flow.run1 rfl (Flow.r_move rfl e9) (hK _ _ (Below.refl _ _) rfl)
                · intro a w' hx hu hd K hK; have e40 := Flow.got (hd 0 rfl) 40 rfl; exact Flow.run1 rfl (Flow.r_not rfl e40) (hK _ _ (Below.refl _ _) rfl)
              intro vs W17 hb17 hT
              have v0 := Flow.eqn (hT 0 (by decide))
              have v1 := Flow.eqn (hT 1 (by decide))
              simp only [Flow.putsT, v0, v1, Act.put, List.setIfInBounds_toArray, List.set_cons_zero, List.set_cons_succ]
              clear hT v0 v1
              have HB17 := Aside0.mk (below_step HB16.out hb17)
              have HRO_17 := Aside0.mk (Kd.R_below HRO_16.out hb17)
              have HRD_17 := Aside0.mk (Kd.R_below HRD_16.out hb17)
              have HRK_17 := Aside0.mk (Kd.R_below HRK_16.out hb17)
              have Kg14_15_16_17 := Aside0.mk (blk_below Kg14_15_16.out hb17)
              clear hb17
              go_upto_region 12 with fail
              refine Flow.seqT_head (E := fun u v => Below u.heap.size u v) 3 [(some 44, []), (some 45, []), (some 46, [1]), (some 47, [0, 2]), (some 4, [3, 3, 0, 1, 2, 3])] (fun iQ vQ wQ => match iQ with | 0 => vQ = u4 | 1 => vQ = (.agg #[.int .i64 x.kind, .int .i64 x.cmd, .int .i64 x.zone, .int .i64 x.at_, .int .i64 x.n, .slice Ad x.data.length cd, .bool x.fua, .int .i64 x.m, .int .i64 x.k, .slice Ak x.keep.length ck]) | 2 => SliceAt #[.int .i64 x.kind, .int .i64 x.cmd, .int .i64 x.zone, .int .i64 x.at_, .int .i64 x.n, .slice Ad x.data.length cd, .bool x.fua, .int .i64 x.m, .int .i64 x.k, .slice Ak x.keep.length ck] 56 1 w.heap.size vQ wQ | _ => True) rfl (by decide) (by kernel_rfl) (Below.refl _ _) (fun _ _ _ h k => h.trans (k.mono h.size)) (fun iQ vQ w1Q w2Q hQ hEQ => match iQ, hQ with | 0, hQ => hQ | 1, hQ => hQ | 2, hQ => slice_below hQ hEQ | _ + 3, _ => trivial) ?_ ?_
              · refine ⟨?_, ?_, ?_, trivial⟩
                · intro a w' hx hu hd K hK; have e4 : a.tmps.getD 4 undef = u4 := hu 4 rfl; exact Flow.run1 rfl (Flow.r_move rfl e4) (hK _ _ (Below.refl _ _) rfl)
                · intro a w' hx hu hd K hK; have e8 : a.tmps.getD 8 undef = (.pointer (some ⟨g14, 0, none⟩)) := hu 8 rfl; exact Flow.run1 rfl (ldrow rfl e8 (lies_block (blk_below Kg14_15_16_17.out hx)) Tryd.underlying56 rfl size56) (hK _ _ (Below.refl _ _) rfl)
                · intro a w' hx hu hd K hK; have e45 := Flow.got (hd 1 rfl) 45 rfl; exact Flow.run1 rfl (row1_59 rfl e45) (hK _ _ (below_alloc (Below.refl _ _) _) (slice_new (Nat.le_trans (HB17.out).size (hx : Below _ _ _).size)))
              intro vs W18 hb18 hT
              have v0 := Flow.eqn (hT 0 (by decide))
              have v1 := Flow.eqn (hT 1 (by decide))
              obtain ⟨g18_2, v2, hge2, hk2⟩ : SliceAt _ _ _ _ _ _ := hT 2 (by decide)
              have Kg18_2 := Aside0.mk hk2
              have Gg18_2 := Aside0.mk hge2
              clear hk2 hge2
              simp only [Flow.putsT, v0, v1, v2, Act.put, List.setIfInBounds_toArray, List.set_cons_zero, List.set_cons_succ, List.drop_succ_cons, List.drop_zero, List.take_succ_cons, List.take_zero]
              clear hT v0 v1 v2
              have HB18 := Aside0.mk (below_step HB17.out hb18)
              have HRO_18 := Aside0.mk (Kd.R_below HRO_17.out hb18)
              have HRD_18 := Aside0.mk (Kd.R_below HRD_17.out hb18)
              have HRK_18 := Aside0.mk (Kd.R_below HRK_17.out hb18)
              have Kg14_15_16_17_18 := Aside0.mk (blk_below Kg14_15_16_17.out hb18)
              clear hb18
              refine app56 (w0 := w) (base := w.heap.size) (g := g18_2) (x := x) (vd := .slice Ad x.data.length cd) (vk := .slice Ak x.keep.length ck) (l := acc) rfl rfl rfl rfl HRO_18.out HRD_18.out HRK_18.out Kg18_2.out HB18.out HB18.out.size (by omega) ?_
              intro v19 W19 hr19 hb19
              have HRO_19 := Aside0.mk hr19
              have HB19 := Aside0.mk hb19
              clear hr19 hb19
              simp only [Act.put, List.setIfInBounds_toArray, List.set_cons_zero, List.set_cons_succ]
              refine Flow.seqL (E := fun u v => Below u.heap.size u v) 4 1 [(some 44, []), (some 45, []), (some 46, [1]), (some 47, [0, 2]), (some 4, [3, 3, 0, 1, 2, 3])] (fun iQ vQ wQ => match iQ with | 4 => vQ = v19 | _ => True) rfl (by decide) (by kernel_rfl) (Below.refl _ _) (fun _ _ _ h k => h.trans (k.mono h.size)) (fun _ _ _ _ h _ => h) ?_ ?_
              · refine ⟨?_, trivial⟩
                · intro a w' hx hu hd K hK; have e47 : a.tmps.getD 47 undef = v19 := hu 47 rfl; exact Flow.run1 rfl (Flow.r_assign rfl e47) (hK _ _ (Below.refl _ _) rfl)
              intro vs W20 hb20 hT
              have v4 := Flow.eqn (hT 4 (by decide) (by decide))
              simp only [Flow.putsT, v4, Act.put, List.setIfInBounds_toArray, List.set_cons_zero, List.set_cons_succ, List.drop_succ_cons, List.drop_zero, List.take_succ_cons, List.take_zero]
              clear hT v4
              have HB20 := Aside0.mk (below_step HB19.out hb20)
              have HRO_20 := Aside0.mk (Kd.R_below HRO_19.out hb20)
              clear hb20
              go_upto_region 13 with fail
              refine Flow.seqT (E := fun u v => Below u.heap.size u v) [(some 5, [])] (fun iQ vQ wQ => match iQ with | 0 => vQ = (.string ⟨#[]⟩) | _ => True) rfl (by kernel_rfl) (Below.refl _ _) (fun _ _ _ h k => h.trans (k.mono h.size)) (fun _ _ _ _ h _ => h) ?_ ?_
              · refine ⟨?_, trivial⟩
                · intro a w' hx hu hd K hK; exact Flow.run1 rfl (Flow.r_assign rfl rfl) (hK _ _ (Below.refl _ _) rfl)
              intro vs W21 hb21 hT
              have v0 := Flow.eqn (hT 0 (by decide))
              simp only [Flow.putsT, v0, Act.put, List.setIfInBounds_toArray, List.set_cons_zero, List.set_cons_succ]
              clear hT v0
              have HB21 := Aside0.mk (below_step HB20.out hb21)
              have HRO_21 := Aside0.mk (Kd.R_below HRO_20.out hb21)
              clear hb21
              go_upto_region 14 with fail
              refine Flow.seqT (E := fun u v => Below u.heap.size u v) [(some 48, []), (some 49, [0]), (some 6, [1, 0, 1])] (fun iQ vQ wQ => match iQ with | 0 => vQ = (.int .i64 k1) | 1 => vQ = (.int .i64 k2) | 2 => vQ = (.int .i64 k2) | _ => True) rfl (by kernel_rfl) (Below.refl _ _) (fun _ _ _ h k => h.trans (k.mono h.size)) (fun _ _ _ _ h _ => h) ?_ ?_
              · refine ⟨?_, ?_, ?_, trivial⟩
                · intro a w' hx hu hd K hK; have e6 : a.tmps.getD 6 undef = (.int .i64 k1) := hu 6 rfl; exact Flow.run1 rfl (Flow.r_move rfl e6) (hK _ _ (Below.refl _ _) rfl)
                · intro a w' hx hu hd K hK; have e48 := Flow.got (hd 0 rfl) 48 rfl; exact Flow.run1 rfl (addk rfl e48 rfl (by omega) (by omega) (by omega)) (hK _ _ (Below.refl _ _) rfl)
                · intro a w' hx hu hd K hK; have e49 := Flow.got (hd 1 rfl) 49 rfl; exact Flow.run1 rfl (Flow.r_assign rfl e49) (hK _ _ (Below.refl _ _) rfl)
              intro vs W22 hb22 hT
              have v0 := Flow.eqn (hT 0 (by decide))
              have v1 := Flow.eqn (hT 1 (by decide))
              have v2 := Flow.eqn (hT 2 (by decide))
              simp only [Flow.putsT, v0, v1, v2, Act.put, List.setIfInBounds_toArray, List.set_cons_zero, List.set_cons_succ]
              clear hT v0 v1 v2
              have HB22 := Aside0.mk (below_step HB21.out hb22)
              have HRO_22 := Aside0.mk (Kd.R_below HRO_21.out hb22)
              clear hb22
              go_upto_region 5 with fail
              refine Flow.seqT (E := fun u v => Below u.heap.size u v) [(some 14, []), (some 15, [0]), (some 7, [1, 0, 1])] (fun iQ vQ wQ => match iQ with | 0 => vQ = (.int .i64 i) | 1 => vQ = (.int .i64 i1) | 2 => vQ = (.int .i64 i1) | _ => True) rfl (by kernel_rfl) (Below.refl _ _) (fun _ _ _ h k => h.trans (k.mono h.size)) (fun _ _ _ _ h _ => h) ?_ ?_
              · refine ⟨?_, ?_, ?_, trivial⟩
                · intro a w' hx hu hd K hK; have e7 : a.tmps.getD 7 undef = (.int .i64 i) := hu 7 rfl; exact Flow.run1 rfl (Flow.r_move rfl e7) (hK _ _ (Below.refl _ _) rfl)
                · intro a w' hx hu hd K hK; have e14 := Flow.got (hd 0 rfl) 14 rfl; exact Flow.run1 rfl (addk rfl e14 rfl (by omega) (by omega) (by omega)) (hK _ _ (Below.refl _ _) rfl)
                · intro a w' hx hu hd K hK; have e15 := Flow.got (hd 1 rfl) 15 rfl; exact Flow.run1 rfl (Flow.r_assign rfl e15) (hK _ _ (Below.refl _ _) rfl)
              intro vs W23 hb23 hT
              have v0 := Flow.eqn (hT 0 (by decide))
              have v1 := Flow.eqn (hT 1 (by decide))
              have v2 := Flow.eqn (hT 2 (by decide))
              simp only [Flow.putsT, v0, v1, v2, Act.put, List.setIfInBounds_toArray, List.set_cons_zero, List.set_cons_succ]
              clear hT v0 v1 v2
              have HB23 := Aside0.mk (below_step HB22.out hb23)
              have HRO_23 := Aside0.mk (Kd.R_below HRO_22.out hb23)
              clear hb23
              go_wp2
              go_roundg (s.size + 1 - (i + 1))
              case measure => have := HGI.out; omega
              case rel => exact ⟨i1, k1, k2, _, by omega, ⟨by omega⟩, ⟨hk2, by omega, Nat.zero_le _⟩, rfl, rfl, rfl, HB23, acc ++ [x], ⟨by rw [List.length_append]; simp only [List.length_cons, List.length_nil]; omega⟩, HRO_23, ⟨by rw [← HRE.out, resL_step hz (by rw [HX.out]), HX.out, hk1]; rfl⟩⟩
            | false =>
              go_upto_region 10 with fail
              refine Flow.seqT (E := fun u v => Below u.heap.size u v) [(some 40, []), (some 41, [0])] (fun iQ vQ wQ => match iQ with | 0 => vQ = (.bool false) | 1 => vQ = (.bool true) | _ => True) rfl (by kernel_rfl) (Below.refl _ _) (fun _ _ _ h k => h.trans (k.mono h.size)) (fun _ _ _ _ h _ => h) ?_ ?_
              · refine ⟨?_, ?_, trivial⟩
                · intro a w' hx hu hd K hK; have e9 : a.tmps.getD 9 undef = (.bool false) := hu 9 rfl; exact Flow.run1 rfl (Flow.r_move rfl e9) (hK _ _ (Below.refl _ _) rfl)
                · intro a w' hx hu hd K hK; have e40 := Flow.got (hd 0 rfl) 40 rfl; exact Flow.run1 rfl (Flow.r_not rfl e40) (hK _ _ (Below.refl _ _) rfl)
              intro vs W24 hb24 hT
              have v0 := Flow.eqn (hT 0 (by decide))
              have v1 := Flow.eqn (hT 1 (by decide))
              simp only [Flow.putsT, v0, v1, Act.put, List.setIfInBounds_toArray, List.set_cons_zero, List.set_cons_succ]
              clear hT v0 v1
              have HB24 := Aside0.mk (below_step HB16.out hb24)
              have HRO_24 := Aside0.mk (Kd.R_below HRO_16.out hb24)
              have HRD_24 := Aside0.mk (Kd.R_below HRD_16.out hb24)
              have HRK_24 := Aside0.mk (Kd.R_below HRK_16.out hb24)
              have Kg14_15_16_24 := Aside0.mk (blk_below Kg14_15_16.out hb24)
              clear hb24
              go_upto_region 11 with fail
              refine Flow.seqT (E := fun u v => Below u.heap.size u v) [(some 42, []), (some 43, []), (some 2, [0, 0]), (some 3, [1, 2, 0, 1, 2])] (fun iQ vQ wQ => match iQ with | 0 => vQ = u4 | 1 => vQ = (.int .i64 k1) | 2 => vQ = u4 | 3 => vQ = (.int .i64 k1) | _ => True) rfl (by kernel_rfl) (Below.refl _ _) (fun _ _ _ h k => h.trans (k.mono h.size)) (fun _ _ _ _ h _ => h) ?_ ?_
              · refine ⟨?_, ?_, ?_, ?_, trivial⟩
                · intro a w' hx hu hd K hK; have e4 : a.tmps.getD 4 undef = u4 := hu 4 rfl; exact Flow.run1 rfl (Flow.r_move rfl e4) (hK _ _ (Below.refl _ _) rfl)
                · intro a w' hx hu hd K hK; have e6 : a.tmps.getD 6 undef = (.int .i64 k1) := hu 6 rfl; exact Flow.run1 rfl (Flow.r_move rfl e6) (hK _ _ (Below.refl _ _) rfl)
                · intro a w' hx hu hd K hK; have e42 := Flow.got (hd 0 rfl) 42 rfl; exact Flow.run1 rfl (Flow.r_assign rfl e42) (hK _ _ (Below.refl _ _) rfl)
                · intro a w' hx hu hd K hK; have e43 := Flow.got (hd 1 rfl) 43 rfl; exact Flow.run1 rfl (Flow.r_assign rfl e43) (hK _ _ (Below.refl _ _) rfl)
              intro vs W25 hb25 hT
              have v0 := Flow.eqn (hT 0 (by decide))
              have v1 := Flow.eqn (hT 1 (by decide))
              have v2 := Flow.eqn (hT 2 (by decide))
              have v3 := Flow.eqn (hT 3 (by decide))
              simp only [Flow.putsT, v0, v1, v2, v3, Act.put, List.setIfInBounds_toArray, List.set_cons_zero, List.set_cons_succ]
              clear hT v0 v1 v2 v3
              have HB25 := Aside0.mk (below_step HB24.out hb25)
              have HRO_25 := Aside0.mk (Kd.R_below HRO_24.out hb25)
              have HRD_25 := Aside0.mk (Kd.R_below HRD_24.out hb25)
              have HRK_25 := Aside0.mk (Kd.R_below HRK_24.out hb25)
              have Kg14_15_16_24_25 := Aside0.mk (blk_below Kg14_15_16_24.out hb25)
              clear hb25
              obtain rfl : r = (acc, (k1 : Int)) := by rw [← hk1]; exact HRE.out.symm.trans (resL_bad hz (by rw [HX.out]))
              go_wp2_with fail
              exact bodyPost_ret (results_tmp2 Tryd.results31 _ _ _) rfl ⟨_, rfl, HRO_25.out, HB25.out⟩
        · have HBE := Aside0.mk hbc
          clear hbc
          go_upto_region 6 with fail
          refine Flow.seqT (E := fun u v => Below u.heap.size u v) [(some 16, []), (some 17, []), (some 18, [1]), (some 19, [0, 2]), (some 20, [3]), (some 21, [4]), (some 22, [4]), (some 23, [5, 6, 4]), (some 24, [7, 4]), (some 25, [4, 8])] (fun iQ vQ wQ => match iQ with | 0 => vQ = (.int .i64 i) | 1 => vQ = (.string s) | 2 => vQ = (.int .i64 ((s).size)) | 3 => vQ = (.bool true) | 4 => vQ = (.bool true) | 5 => vQ = (.string s) | 6 => vQ = (.int .i64 i) | 7 => vQ = (.int .u8 bc) | 8 => vQ = (.bool true) | 9 => vQ = (.bool true) | _ => True) rfl (by kernel_rfl) (Below.refl _ _) (fun _ _ _ h k => h.trans (k.mono h.size)) (fun _ _ _ _ h _ => h) ?_ ?_
          · refine ⟨?_, ?_, ?_, ?_, ?_, ?_, ?_, ?_, ?_, ?_, trivial⟩
            · intro a w' hx hu hd K hK; have e7 : a.tmps.getD 7 undef = (.int .i64 i) := hu 7 rfl; exact Flow.run1 rfl (Flow.r_move rfl e7) (hK _ _ (Below.refl _ _) rfl)
            · intro a w' hx hu hd K hK; have e0 : a.tmps.getD 0 undef = (.string s) := hu 0 rfl; exact Flow.run1 rfl (Flow.r_move rfl e0) (hK _ _ (Below.refl _ _) rfl)
            · intro a w' hx hu hd K hK; have e17 := Flow.got (hd 1 rfl) 17 rfl; exact Flow.run1 rfl (lenS Tryd.underlying9 rfl e17) (hK _ _ (Below.refl _ _) rfl)
            · intro a w' hx hu hd K hK; have e16 := Flow.got (hd 0 rfl) 16 rfl; have e18 := Flow.got (hd 2 rfl) 18 rfl; exact Flow.run1 rfl (yes (lss rfl e16 e18) (decide_eq_true hlt2)) (hK _ _ (Below.refl _ _) rfl)
            · intro a w' hx hu hd K hK; have e19 := Flow.got (hd 3 rfl) 19 rfl; exact Flow.run1 rfl (Flow.r_move rfl e19) (hK _ _ (Below.refl _ _) rfl)
            · intro a w' hx hu hd K hK; have e0 : a.tmps.getD 0 undef = (.string s) := hu 0 rfl; have e20 := Flow.got (hd 4 rfl) 20 rfl; exact Flow.run1 (Flow.want_of (k := 20) rfl e20) (Flow.r_move rfl e0) (hK _ _ (Below.refl _ _) rfl)
            · intro a w' hx hu hd K hK; have e7 : a.tmps.getD 7 undef = (.int .i64 i) := hu 7 rfl; have e20 := Flow.got (hd 4 rfl) 20 rfl; exact Flow.run1 (Flow.want_of (k := 20) rfl e20) (Flow.r_move rfl e7) (hK _ _ (Below.refl _ _) rfl)
            · intro a w' hx hu hd K hK; have e21 := Flow.got (hd 5 rfl) 21 rfl; have e22 := Flow.got (hd 6 rfl) 22 rfl; have e20 := Flow.got (hd 4 rfl) 20 rfl; exact Flow.run1 (Flow.want_of (k := 20) rfl e20) (HBC.out ▸ strix Tryd.underlying9 rfl e21 e22 (by omega) hlt2) (hK _ _ (Below.refl _ _) rfl)
            · intro a w' hx hu hd K hK; have e23 := Flow.got (hd 7 rfl) 23 rfl; have e20 := Flow.got (hd 4 rfl) 20 rfl; exact Flow.run1 (Flow.want_of (k := 20) rfl e20) (yes (neq rfl e23 rfl) (bne_iff_ne.2 HBE.out)) (hK _ _ (Below.refl _ _) rfl)
            · intro a w' hx hu hd K hK; have e20 := Flow.got (hd 4 rfl) 20 rfl; have e24 := Flow.got (hd 8 rfl) 24 rfl; exact Flow.run1 rfl (Flow.r_pick rfl e20 e24) (hK _ _ (Below.refl _ _) rfl)
          intro vs W26 hb26 hT
          have v0 := Flow.eqn (hT 0 (by decide))
          have v1 := Flow.eqn (hT 1 (by decide))
          have v2 := Flow.eqn (hT 2 (by decide))
          have v3 := Flow.eqn (hT 3 (by decide))
          have v4 := Flow.eqn (hT 4 (by decide))
          have v5 := Flow.eqn (hT 5 (by decide))
          have v6 := Flow.eqn (hT 6 (by decide))
          have v7 := Flow.eqn (hT 7 (by decide))
          have v8 := Flow.eqn (hT 8 (by decide))
          have v9 := Flow.eqn (hT 9 (by decide))
          simp only [Flow.putsT, v0, v1, v2, v3, v4, v5, v6, v7, v8, v9, Act.put, List.setIfInBounds_toArray, List.set_cons_zero, List.set_cons_succ]
          clear hT v0 v1 v2 v3 v4 v5 v6 v7 v8 v9
          have HB26 := Aside0.mk (below_step HB5.out hb26)
          have HRO_26 := Aside0.mk (Kd.R_below HRO_5.out hb26)
          clear hb26
          obtain ⟨ch, HCH⟩ : ∃ q, Aside0 (s.extract i i1 = q) := ⟨_, ⟨rfl⟩⟩
          have hch : ch.size ≤ 1 := by rw [← HCH.out, ByteArray.size_extract]; omega
          have HRE := Aside0.mk (HRES.out)
          rw [restL_char hlt cur (by rw [HBC.out]; exact HBE.out), hi1, HCH.out] at HRE
          go_upto_region 7 with fail
          obtain ⟨t27_6, Ht27_6⟩ : ∃ tQ, Aside0 (cur ++ ch = tQ) := ⟨_, ⟨rfl⟩⟩
          have zt27_6 : t27_6.size ≤ 1000001 := Ht27_6.out ▸ szapp hcz hch (by decide)
          refine Flow.seqT (E := fun u v => Below u.heap.size u v) [(some 26, []), (some 27, []), (some 28, []), (some 29, []), (some 30, [3]), (some 31, [1, 2, 4]), (some 32, [0, 5]), (some 5, [6, 0, 1, 2, 3, 4, 5, 6])] (fun iQ vQ wQ => match iQ with | 0 => vQ = (.string cur) | 1 => vQ = (.string s) | 2 => vQ = (.int .i64 i) | 3 => vQ = (.int .i64 i) | 4 => vQ = (.int .i64 i1) | 5 => vQ = (.string ch) | 6 => vQ = (.string t27_6) | 7 => vQ = (.string t27_6) | _ => True) rfl (by kernel_rfl) (Below.refl _ _) (fun _ _ _ h k => h.trans (k.mono h.size)) (fun _ _ _ _ h _ => h) ?_ ?_
          · refine ⟨?_, ?_, ?_, ?_, ?_, ?_, ?_, ?_, trivial⟩
            · intro a w' hx hu hd K hK; have e5 : a.tmps.getD 5 undef = (.string cur) := hu 5 rfl; exact Flow.run1 rfl (Flow.r_move rfl e5) (hK _ _ (Below.refl _ _) rfl)
            · intro a w' hx hu hd K hK; have e0 : a.tmps.getD 0 undef = (.string s) := hu 0 rfl; exact Flow.run1 rfl (Flow.r_move rfl e0) (hK _ _ (Below.refl _ _) rfl)
            · intro a w' hx hu hd K hK; have e7 : a.tmps.getD 7 undef = (.int .i64 i) := hu 7 rfl; exact Flow.run1 rfl (Flow.r_move rfl e7) (hK _ _ (Below.refl _ _) rfl)
            · intro a w' hx hu hd K hK; have e7 : a.tmps.getD 7 undef = (.int .i64 i) := hu 7 rfl; exact Flow.run1 rfl (Flow.r_move rfl e7) (hK _ _ (Below.refl _ _) rfl)
            · intro a w' hx hu hd K hK; have e29 := Flow.got (hd 3 rfl) 29 rfl; exact Flow.run1 rfl (addk rfl e29 rfl (by omega) (by omega) (by omega)) (hK _ _ (Below.refl _ _) rfl)
            · intro a w' hx hu hd K hK; have e27 := Flow.got (hd 1 rfl) 27 rfl; have e28 := Flow.got (hd 2 rfl) 28 rfl; have e30 := Flow.got (hd 4 rfl) 30 rfl; exact Flow.run1 rfl (HCH.out ▸ strsl Tryd.underlying9 rfl e27 e28 e30 (show i ≤ i1 by omega) (show i1 ≤ s.size by omega)) (hK _ _ (Below.refl _ _) rfl)
            · intro a w' hx hu hd K hK; have e26 := Flow.got (hd 0 rfl) 26 rfl; have e31 := Flow.got (hd 5 rfl) 31 rfl; exact Flow.run1 rfl (Ht27_6.out ▸ cat rfl e26 e31 hcz hch (by decide)) (hK _ _ (Below.refl _ _) rfl)
            · intro a w' hx hu hd K hK; have e32 := Flow.got (hd 6 rfl) 32 rfl; exact Flow.run1 rfl (Flow.r_assign rfl e32) (hK _ _ (Below.refl _ _) rfl)
          intro vs W27 hb27 hT
          have v0 := Flow.eqn (hT 0 (by decide))
          have v1 := Flow.eqn (hT 1 (by decide))
          have v2 := Flow.eqn (hT 2 (by decide))
          have v3 := Flow.eqn (hT 3 (by decide))
          have v4 := Flow.eqn (hT 4 (by decide))
          have v5 := Flow.eqn (hT 5 (by decide))
          have v6 := Flow.eqn (hT 6 (by decide))
          have v7 := Flow.eqn (hT 7 (by decide))
          simp only [Flow.putsT, v0, v1, v2, v3, v4, v5, v6, v7, Act.put, List.setIfInBounds_toArray, List.set_cons_zero, List.set_cons_succ]
          clear hT v0 v1 v2 v3 v4 v5 v6 v7
          have HB27 := Aside0.mk (below_step HB26.out hb27)
          have HRO_27 := Aside0.mk (Kd.R_below HRO_26.out hb27)
          clear hb27
          go_upto_region 5 with fail
          refine Flow.seqT (E := fun u v => Below u.heap.size u v) [(some 14, []), (some 15, [0]), (some 7, [1, 0, 1])] (fun iQ vQ wQ => match iQ with | 0 => vQ = (.int .i64 i) | 1 => vQ = (.int .i64 i1) | 2 => vQ = (.int .i64 i1) | _ => True) rfl (by kernel_rfl) (Below.refl _ _) (fun _ _ _ h k => h.trans (k.mono h.size)) (fun _ _ _ _ h _ => h) ?_ ?_
          · refine ⟨?_, ?_, ?_, trivial⟩
            · intro a w' hx hu hd K hK; have e7 : a.tmps.getD 7 undef = (.int .i64 i) := hu 7 rfl; exact Flow.run1 rfl (Flow.r_move rfl e7) (hK _ _ (Below.refl _ _) rfl)
            · intro a w' hx hu hd K hK; have e14 := Flow.got (hd 0 rfl) 14 rfl; exact Flow.run1 rfl (addk rfl e14 rfl (by omega) (by omega) (by omega)) (hK _ _ (Below.refl _ _) rfl)
            · intro a w' hx hu hd K hK; have e15 := Flow.got (hd 1 rfl) 15 rfl; exact Flow.run1 rfl (Flow.r_assign rfl e15) (hK _ _ (Below.refl _ _) rfl)
          intro vs W28 hb28 hT
          have v0 := Flow.eqn (hT 0 (by decide))
          have v1 := Flow.eqn (hT 1 (by decide))
          have v2 := Flow.eqn (hT 2 (by decide))
          simp only [Flow.putsT, v0, v1, v2, Act.put, List.setIfInBounds_toArray, List.set_cons_zero, List.set_cons_succ]
          clear hT v0 v1 v2
          have HB28 := Aside0.mk (below_step HB27.out hb28)
          have HRO_28 := Aside0.mk (Kd.R_below HRO_27.out hb28)
          clear hb28
          have hszz : t27_6.size ≤ i1 := by rw [← Ht27_6.out, ByteArray.size_append]; omega
          rw [Ht27_6.out] at HRE
          go_wp2
          go_roundg (s.size + 1 - (i + 1))
          case measure => have := HGI.out; omega
          case rel => exact ⟨i1, k, k1, _, by omega, ⟨by omega⟩, ⟨hk1, by omega, hszz⟩, rfl, rfl, rfl, HB28, acc, ⟨hac⟩, HRO_28, HRE⟩
      · have hlt2 : ¬ (i : Int) < s.size := by omega
        go_upto_region 6 with fail
        refine Flow.seqT (E := fun u v => Below u.heap.size u v) [(some 16, []), (some 17, []), (some 18, [1]), (some 19, [0, 2]), (some 20, [3]), (some 21, [4]), (some 22, [4]), (some 23, [5, 6, 4]), (some 24, [7, 4]), (some 25, [4, 8])] (fun iQ vQ wQ => match iQ with | 0 => vQ = (.int .i64 i) | 1 => vQ = (.string s) | 2 => vQ = (.int .i64 ((s).size)) | 3 => vQ = (.bool false) | 4 => vQ = (.bool false) | 5 => vQ = undef | 6 => vQ = undef | 7 => vQ = undef | 8 => vQ = undef | 9 => vQ = (.bool false) | _ => True) rfl (by kernel_rfl) (Below.refl _ _) (fun _ _ _ h k => h.trans (k.mono h.size)) (fun _ _ _ _ h _ => h) ?_ ?_
        · refine ⟨?_, ?_, ?_, ?_, ?_, ?_, ?_, ?_, ?_, ?_, trivial⟩
          · intro a w' hx hu hd K hK; have e7 : a.tmps.getD 7 undef = (.int .i64 i) := hu 7 rfl; exact Flow.run1 rfl (Flow.r_move rfl e7) (hK _ _ (Below.refl _ _) rfl)
          · intro a w' hx hu hd K hK; have e0 : a.tmps.getD 0 undef = (.string s) := hu 0 rfl; exact Flow.run1 rfl (Flow.r_move rfl e0) (hK _ _ (Below.refl _ _) rfl)
          · intro a w' hx hu hd K hK; have e17 := Flow.got (hd 1 rfl) 17 rfl; exact Flow.run1 rfl (lenS Tryd.underlying9 rfl e17) (hK _ _ (Below.refl _ _) rfl)
          · intro a w' hx hu hd K hK; have e16 := Flow.got (hd 0 rfl) 16 rfl; have e18 := Flow.got (hd 2 rfl) 18 rfl; exact Flow.run1 rfl (no (lss rfl e16 e18) (decide_eq_false hlt2)) (hK _ _ (Below.refl _ _) rfl)
          · intro a w' hx hu hd K hK; have e19 := Flow.got (hd 3 rfl) 19 rfl; exact Flow.run1 rfl (Flow.r_move rfl e19) (hK _ _ (Below.refl _ _) rfl)
          · intro a w' hx hu hd K hK; have e20 := Flow.got (hd 4 rfl) 20 rfl; exact Flow.spare (Flow.spare_of (k := 20) rfl e20 rfl) (hK _ _ (Below.refl _ _) rfl)
          · intro a w' hx hu hd K hK; have e20 := Flow.got (hd 4 rfl) 20 rfl; exact Flow.spare (Flow.spare_of (k := 20) rfl e20 rfl) (hK _ _ (Below.refl _ _) rfl)
          · intro a w' hx hu hd K hK; have e20 := Flow.got (hd 4 rfl) 20 rfl; exact Flow.spare (Flow.spare_of (k := 20) rfl e20 rfl) (hK _ _ (Below.refl _ _) rfl)
          · intro a w' hx hu hd K hK; have e20 := Flow.got (hd 4 rfl) 20 rfl; exact Flow.spare (Flow.spare_of (k := 20) rfl e20 rfl) (hK _ _ (Below.refl _ _) rfl)
          · intro a w' hx hu hd K hK; have e20 := Flow.got (hd 4 rfl) 20 rfl; have e24 := Flow.got (hd 8 rfl) 24 rfl; exact Flow.run1 rfl (Flow.r_pick rfl e20 rfl) (hK _ _ (Below.refl _ _) rfl)
        intro vs W29 hb29 hT
        have v0 := Flow.eqn (hT 0 (by decide))
        have v1 := Flow.eqn (hT 1 (by decide))
        have v2 := Flow.eqn (hT 2 (by decide))
        have v3 := Flow.eqn (hT 3 (by decide))
        have v4 := Flow.eqn (hT 4 (by decide))
        have v5 := Flow.eqn (hT 5 (by decide))
        have v6 := Flow.eqn (hT 6 (by decide))
        have v7 := Flow.eqn (hT 7 (by decide))
        have v8 := Flow.eqn (hT 8 (by decide))
        have v9 := Flow.eqn (hT 9 (by decide))
        simp only [Flow.putsT, v0, v1, v2, v3, v4, v5, v6, v7, v8, v9, Act.put, List.setIfInBounds_toArray, List.set_cons_zero, List.set_cons_succ]
        clear hT v0 v1 v2 v3 v4 v5 v6 v7 v8 v9
        have HB29 := Aside0.mk (below_step HB5.out hb29)
        have HRO_29 := Aside0.mk (Kd.R_below HRO_5.out hb29)
        clear hb29
        have HRE := Aside0.mk (HRES.out)
        rw [restL_line hle cur (fun h => absurd h hlt), hi1] at HRE
        by_cases hz : cur.size = 0
        · have HZE := Aside0.mk (nemptyB (b := false) (decide_eq_true hz))
          go_upto_region 8 with fail
          refine Flow.seqT (E := fun u v => Below u.heap.size u v) [(some 33, []), (some 34, [0])] (fun iQ vQ wQ => match iQ with | 0 => vQ = (.string cur) | 1 => vQ = (.bool false) | _ => True) rfl (by kernel_rfl) (Below.refl _ _) (fun _ _ _ h k => h.trans (k.mono h.size)) (fun _ _ _ _ h _ => h) ?_ ?_
          · refine ⟨?_, ?_, trivial⟩
            · intro a w' hx hu hd K hK; have e5 : a.tmps.getD 5 undef = (.string cur) := hu 5 rfl; exact Flow.run1 rfl (Flow.r_move rfl e5) (hK _ _ (Below.refl _ _) rfl)
            · intro a w' hx hu hd K hK; have e33 := Flow.got (hd 0 rfl) 33 rfl; exact Flow.run1 rfl (sneq rfl e33 rfl HZE.out) (hK _ _ (Below.refl _ _) rfl)
          intro vs W30 hb30 hT
          have v0 := Flow.eqn (hT 0 (by decide))
          have v1 := Flow.eqn (hT 1 (by decide))
          simp only [Flow.putsT, v0, v1, Act.put, List.setIfInBounds_toArray, List.set_cons_zero, List.set_cons_succ]
          clear hT v0 v1
          have HB30 := Aside0.mk (below_step HB29.out hb30)
          have HRO_30 := Aside0.mk (Kd.R_below HRO_29.out hb30)
          clear hb30
          go_upto_region 13 with fail
          refine Flow.seqT (E := fun u v => Below u.heap.size u v) [(some 5, [])] (fun iQ vQ wQ => match iQ with | 0 => vQ = (.string ⟨#[]⟩) | _ => True) rfl (by kernel_rfl) (Below.refl _ _) (fun _ _ _ h k => h.trans (k.mono h.size)) (fun _ _ _ _ h _ => h) ?_ ?_
          · refine ⟨?_, trivial⟩
            · intro a w' hx hu hd K hK; exact Flow.run1 rfl (Flow.r_assign rfl rfl) (hK _ _ (Below.refl _ _) rfl)
          intro vs W31 hb31 hT
          have v0 := Flow.eqn (hT 0 (by decide))
          simp only [Flow.putsT, v0, Act.put, List.setIfInBounds_toArray, List.set_cons_zero, List.set_cons_succ]
          clear hT v0
          have HB31 := Aside0.mk (below_step HB30.out hb31)
          have HRO_31 := Aside0.mk (Kd.R_below HRO_30.out hb31)
          clear hb31
          go_upto_region 14 with fail
          refine Flow.seqT (E := fun u v => Below u.heap.size u v) [(some 48, []), (some 49, [0]), (some 6, [1, 0, 1])] (fun iQ vQ wQ => match iQ with | 0 => vQ = (.int .i64 k1) | 1 => vQ = (.int .i64 k2) | 2 => vQ = (.int .i64 k2) | _ => True) rfl (by kernel_rfl) (Below.refl _ _) (fun _ _ _ h k => h.trans (k.mono h.size)) (fun _ _ _ _ h _ => h) ?_ ?_
          · refine ⟨?_, ?_, ?_, trivial⟩
            · intro a w' hx hu hd K hK; have e6 : a.tmps.getD 6 undef = (.int .i64 k1) := hu 6 rfl; exact Flow.run1 rfl (Flow.r_move rfl e6) (hK _ _ (Below.refl _ _) rfl)
            · intro a w' hx hu hd K hK; have e48 := Flow.got (hd 0 rfl) 48 rfl; exact Flow.run1 rfl (addk rfl e48 rfl (by omega) (by omega) (by omega)) (hK _ _ (Below.refl _ _) rfl)
            · intro a w' hx hu hd K hK; have e49 := Flow.got (hd 1 rfl) 49 rfl; exact Flow.run1 rfl (Flow.r_assign rfl e49) (hK _ _ (Below.refl _ _) rfl)
          intro vs W32 hb32 hT
          have v0 := Flow.eqn (hT 0 (by decide))
          have v1 := Flow.eqn (hT 1 (by decide))
          have v2 := Flow.eqn (hT 2 (by decide))
          simp only [Flow.putsT, v0, v1, v2, Act.put, List.setIfInBounds_toArray, List.set_cons_zero, List.set_cons_succ]
          clear hT v0 v1 v2
          have HB32 := Aside0.mk (below_step HB31.out hb32)
          have HRO_32 := Aside0.mk (Kd.R_below HRO_31.out hb32)
          clear hb32
          go_upto_region 5 with fail
          refine Flow.seqT (E := fun u v => Below u.heap.size u v) [(some 14, []), (some 15, [0]), (some 7, [1, 0, 1])] (fun iQ vQ wQ => match iQ with | 0 => vQ = (.int .i64 i) | 1 => vQ = (.int .i64 i1) | 2 => vQ = (.int .i64 i1) | _ => True) rfl (by kernel_rfl) (Below.refl _ _) (fun _ _ _ h k => h.trans (k.mono h.size)) (fun _ _ _ _ h _ => h) ?_ ?_
          · refine ⟨?_, ?_, ?_, trivial⟩
            · intro a w' hx hu hd K hK; have e7 : a.tmps.getD 7 undef = (.int .i64 i) := hu 7 rfl; exact Flow.run1 rfl (Flow.r_move rfl e7) (hK _ _ (Below.refl _ _) rfl)
            · intro a w' hx hu hd K hK; have e14 := Flow.got (hd 0 rfl) 14 rfl; exact Flow.run1 rfl (addk rfl e14 rfl (by omega) (by omega) (by omega)) (hK _ _ (Below.refl _ _) rfl)
            · intro a w' hx hu hd K hK; have e15 := Flow.got (hd 1 rfl) 15 rfl; exact Flow.run1 rfl (Flow.r_assign rfl e15) (hK _ _ (Below.refl _ _) rfl)
          intro vs W33 hb33 hT
          have v0 := Flow.eqn (hT 0 (by decide))
          have v1 := Flow.eqn (hT 1 (by decide))
          have v2 := Flow.eqn (hT 2 (by decide))
          simp only [Flow.putsT, v0, v1, v2, Act.put, List.setIfInBounds_toArray, List.set_cons_zero, List.set_cons_succ]
          clear hT v0 v1 v2
          have HB33 := Aside0.mk (below_step HB32.out hb33)
          have HRO_33 := Aside0.mk (Kd.R_below HRO_32.out hb33)
          clear hb33
          go_wp2
          go_roundg (s.size + 1 - (i + 1))
          case measure => have := HGI.out; omega
          case rel => exact ⟨i1, k1, k2, _, by omega, ⟨by omega⟩, ⟨hk2, by omega, Nat.zero_le _⟩, rfl, rfl, rfl, HB33, acc, ⟨by omega⟩, HRO_33, ⟨by rw [← HRE.out, resL_empty hz, hk1]; rfl⟩⟩
        · have HZE := Aside0.mk (nemptyB (b := true) (decide_eq_false hz))
          obtain ⟨⟨x, ok⟩, HX⟩ : ∃ q, Aside0 (parse hexF cur = q) := ⟨_, ⟨rfl⟩⟩
          go_upto_region 8 with fail
          refine Flow.seqT (E := fun u v => Below u.heap.size u v) [(some 33, []), (some 34, [0])] (fun iQ vQ wQ => match iQ with | 0 => vQ = (.string cur) | 1 => vQ = (.bool true) | _ => True) rfl (by kernel_rfl) (Below.refl _ _) (fun _ _ _ h k => h.trans (k.mono h.size)) (fun _ _ _ _ h _ => h) ?_ ?_
          · refine ⟨?_, ?_, trivial⟩
            · intro a w' hx hu hd K hK; have e5 : a.tmps.getD 5 undef = (.string cur) := hu 5 rfl; exact Flow.run1 rfl (Flow.r_move rfl e5) (hK _ _ (Below.refl _ _) rfl)
            · intro a w' hx hu hd K hK; have e33 := Flow.got (hd 0 rfl) 33 rfl; exact Flow.run1 rfl (sneq rfl e33 rfl HZE.out) (hK _ _ (Below.refl _ _) rfl)
          intro vs W34 hb34 hT
          have v0 := Flow.eqn (hT 0 (by decide))
          have v1 := Flow.eqn (hT 1 (by decide))
          simp only [Flow.putsT, v0, v1, Act.put, List.setIfInBounds_toArray, List.set_cons_zero, List.set_cons_succ]
          clear hT v0 v1
          have HB34 := Aside0.mk (below_step HB29.out hb34)
          have HRO_34 := Aside0.mk (Kd.R_below HRO_29.out hb34)
          clear hb34
          go_upto_region 9 with fail
          refine Flow.seqT_head (E := fun u v => Below u.heap.size u v) 2 [(some 36, []), (some 37, [0]), (some 35, [1]), (some 38, [2]), (some 39, [2]), (some 8, []), (none, [5, 3, 1, 0, 1, 2, 3, 5]), (some 9, [4, 6, 0, 1, 2, 3, 4, 5, 6])] (fun iQ vQ wQ => match iQ with | 0 => vQ = (.string cur) | 1 => PV x ok w.heap.size vQ wQ | _ => True) rfl (by decide) (by kernel_rfl) (Below.refl _ _) (fun _ _ _ h k => h.trans (k.mono h.size)) (fun iQ vQ w1Q w2Q hQ hEQ => match iQ, hQ with | 0, hQ => hQ | 1, hQ => hQ.below hEQ | _ + 2, _ => trivial) ?_ ?_
          · refine ⟨?_, ?_, trivial⟩
            · intro a w' hx hu hd K hK; have e5 : a.tmps.getD 5 undef = (.string cur) := hu 5 rfl; exact Flow.run1 rfl (Flow.r_move rfl e5) (hK _ _ (Below.refl _ _) rfl)
            · intro a w' hx hu hd K hK; have e36 := Flow.got (hd 0 rfl) 36 rfl; refine Flow.want rfl ?_; refine Flow.val_call rfl Tryd.func29 (by kernel_rfl) rfl (by first | (simp only [List.map_toArray, List.map_cons, List.map_nil, Act.eval, e36]; done) | (simp only [List.map_toArray, List.map_cons, List.map_nil, Act.eval, e36]; rfl)) (rparse_all cur (by omega) w') ?_; rintro e w2 ⟨vd, vk, rfl, hR1, hR2, hb2⟩; exact ⟨_, rfl, hK _ _ hb2 (HX.out ▸ (⟨vd, vk, rfl, Kd.R_lower hR1 (below_step HB34.out hx).size, Kd.R_lower hR2 (below_step HB34.out hx).size⟩ : PV _ _ _ _ _))⟩
          intro vs W35 hb35 hT
          have v0 := Flow.eqn (hT 0 (by decide))
          obtain ⟨vd, vk, v1, hRd, hRk⟩ : PV x ok _ _ _ := hT 1 (by decide)
          obtain ⟨Ad, cd, rfl, -, -⟩ := Kd.R_reads hRd
          obtain ⟨Ak, ck, rfl, -, -⟩ := Kd.R_reads hRk
          have HRD := Aside0.mk hRd
          have HRK := Aside0.mk hRk
          clear hRd hRk
          simp only [Flow.putsT, v0, v1, Act.put, List.setIfInBounds_toArray, List.set_cons_zero, List.set_cons_succ, List.drop_succ_cons, List.drop_zero, List.take_succ_cons, List.take_zero]
          clear hT v0 v1
          have HB35 := Aside0.mk (below_step HB34.out hb35)
          have HRO_35 := Aside0.mk (Kd.R_below HRO_34.out hb35)
          clear hb35
          refine Flow.seqL (E := fun u v => Below u.heap.size u v) 2 3 [(some 36, []), (some 37, [0]), (some 35, [1]), (some 38, [2]), (some 39, [2]), (some 8, []), (none, [5, 3, 1, 0, 1, 2, 3, 5]), (some 9, [4, 6, 0, 1, 2, 3, 4, 5, 6])] (fun iQ vQ wQ => match iQ with | 2 => vQ = (.tuple #[.agg #[.int .i64 x.kind, .int .i64 x.cmd, .int .i64 x.zone, .int .i64 x.at_, .int .i64 x.n, .slice Ad x.data.length cd, .bool x.fua, .int .i64 x.m, .int .i64 x.k, .slice Ak x.keep.length ck], .bool ok]) | 3 => vQ = (.agg #[.int .i64 x.kind, .int .i64 x.cmd, .int .i64 x.zone, .int .i64 x.at_, .int .i64 x.n, .slice Ad x.data.length cd, .bool x.fua, .int .i64 x.m, .int .i64 x.k, .slice Ak x.keep.length ck]) | 4 => vQ = (.bool ok) | _ => True) rfl (by decide) (by kernel_rfl) (Below.refl _ _) (fun _ _ _ h k => h.trans (k.mono h.size)) (fun _ _ _ _ h _ => h) ?_ ?_
          · refine ⟨?_, ?_, ?_, trivial⟩
            · intro a w' hx hu hd K hK; have e37 : a.tmps.getD 37 undef = (.tuple #[.agg #[.int .i64 x.kind, .int .i64 x.cmd, .int .i64 x.zone, .int .i64 x.at_, .int .i64 x.n, .slice Ad x.data.length cd, .bool x.fua, .int .i64 x.m, .int .i64 x.k, .slice Ak x.keep.length ck], .bool ok]) := hu 37 rfl; exact Flow.run1 rfl (Flow.r_move rfl e37) (hK _ _ (Below.refl _ _) rfl)
            · intro a w' hx hu hd K hK; have e35 := Flow.got (hd 2 rfl) 35 rfl; exact Flow.run1 rfl (extr rfl e35 rfl) (hK _ _ (Below.refl _ _) rfl)
            · intro a w' hx hu hd K hK; have e35 := Flow.got (hd 2 rfl) 35 rfl; exact Flow.run1 rfl (extr rfl e35 rfl) (hK _ _ (Below.refl _ _) rfl)
          intro vs W36 hb36 hT
          have v2 := Flow.eqn (hT 2 (by decide) (by decide))
          have v3 := Flow.eqn (hT 3 (by decide) (by decide))
          have v4 := Flow.eqn (hT 4 (by decide) (by decide))
          simp only [Flow.putsT, v2, v3, v4, Act.put, List.setIfInBounds_toArray, List.set_cons_zero, List.set_cons_succ, List.drop_succ_cons, List.drop_zero, List.take_succ_cons, List.take_zero]
          clear hT v2 v3 v4
          have HB36 := Aside0.mk (below_step HB35.out hb36)
          have HRO_36 := Aside0.mk (Kd.R_below HRO_35.out hb36)
          have HRD_36 := Aside0.mk (Kd.R_below HRD.out hb36)
          have HRK_36 := Aside0.mk (Kd.R_below HRK.out hb36)
          clear hb36
          refine ealloc rfl rfl zero56_is ?_
          intro g37 hg37 W37 hk37 hb37
          have Kg37 := Aside0.mk hk37
          have HRO_e37 := Aside0.mk (Kd.R_elderB HRO_36.out g37 (by rw [hg37]; exact Nat.le_refl _))
          have HB37 := Aside0.mk (below_step HB36.out hb37)
          have HRO_37 := Aside0.mk (Kd.R_below HRO_e37.out hb37)
          have HRD_37 := Aside0.mk (Kd.R_below HRD_36.out hb37)
          have HRK_37 := Aside0.mk (Kd.R_below HRK_36.out hb37)
          clear hb37
          have Gg37 := Aside0.mk (show w.heap.size ≤ g37 by rw [hg37]; exact HB36.out.size)
          clear hg37 hk37
          simp only [Act.put, List.setIfInBounds_toArray, List.set_cons_zero, List.set_cons_succ]
          refine Cells.store_whole rfl rfl 56 _ _ rfl g37 [.int .i64 x.kind, .int .i64 x.cmd, .int .i64 x.zone, .int .i64 x.at_, .int .i64 x.n, .slice Ad x.data.length cd, .bool x.fua, .int .i64 x.m, .int .i64 x.k, .slice Ak x.keep.length ck] #[.int .i64 0, .int .i64 0, .int .i64 0, .int .i64 0, .int .i64 0, .slice none 0 0, .bool false, .int .i64 0, .int .i64 0, .slice none 0 0] rfl rfl Kg37.out rfl size56 rfl ?_
          intro W38 hk38 hf38 hb38
          have HRO_38 := Aside0.mk (R_far_ne HRO_37.out hf38)
          have HRD_38 := Aside0.mk (R_far HRD_37.out Kg37.out (by decide) hf38)
          have HRK_38 := Aside0.mk (R_far HRK_37.out Kg37.out (by decide) hf38)
          have HB38 := Aside0.mk (HB37.out.trans (hb38 _ Gg37.out))
          have Kg37_38 := Aside0.mk hk38
          clear hk38 hf38 hb38
          refine Flow.seqL (E := fun u v => Below u.heap.size u v) 7 1 [(some 36, []), (some 37, [0]), (some 35, [1]), (some 38, [2]), (some 39, [2]), (some 8, []), (none, [5, 3, 1, 0, 1, 2, 3, 5]), (some 9, [4, 6, 0, 1, 2, 3, 4, 5, 6])] (fun iQ vQ wQ => match iQ with | 7 => vQ = (.bool ok) | _ => True) rfl (by decide) (by kernel_rfl) (Below.refl _ _) (fun _ _ _ h k => h.trans (k.mono h.size)) (fun _ _ _ _ h _ => h) ?_ ?_
          · refine ⟨?_, trivial⟩
            · intro a w' hx hu hd K hK; have e39 : a.tmps.getD 39 undef = (.bool ok) := hu 39 rfl; exact Flow.run1 rfl (Flow.r_assign rfl e39) (hK _ _ (Below.refl _ _) rfl)
          intro vs W39 hb39 hT
          have v7 := Flow.eqn (hT 7 (by decide) (by decide))
          simp only [Flow.putsT, v7, Act.put, List.setIfInBounds_toArray, List.set_cons_zero, List.set_cons_succ, List.drop_succ_cons, List.drop_zero, List.take_succ_cons, List.take_zero]
          clear hT v7
          have HB39 := Aside0.mk (below_step HB38.out hb39)
          have HRO_39 := Aside0.mk (Kd.R_below HRO_38.out hb39)
          have HRD_39 := Aside0.mk (Kd.R_below HRD_38.out hb39)
          have HRK_39 := Aside0.mk (Kd.R_below HRK_38.out hb39)
          have Kg37_38_39 := Aside0.mk (blk_below Kg37_38.out hb39)
          clear hb39
          cases ok with
          | true =>
            go_upto_region 10 with fail
            refine Flow.seqT (E := fun u v => Below u.heap.size u v) [(some 40, []), (some 41, [0])] (fun iQ vQ wQ => match iQ with | 0 => vQ = (.bool true) | 1 => vQ = (.bool false) | _ => True) rfl (by kernel_rfl) (Below.refl _ _) (fun _ _ _ h k => h.trans (k.mono h.size)) (fun _ _ _ _ h _ => h) ?_ ?_
            · refine ⟨?_, ?_, trivial⟩
              · intro a w' hx hu hd K hK; have e9 : a.tmps.getD 9 undef = (.bool true) := hu 9 rfl; exact Flow.run1 rfl (Flow.r_move rfl e9) (hK _ _ (Below.refl _ _) rfl)
              · intro a w' hx hu hd K hK; have e40 := Flow.got (hd 0 rfl) 40 rfl; exact Flow.run1 rfl (Flow.r_not rfl e40) (hK _ _ (Below.refl _ _) rfl)
            intro vs W40 hb40 hT
            have v0 := Flow.eqn (hT 0 (by decide))
            have v1 := Flow.eqn (hT 1 (by decide))
            simp only [Flow.putsT, v0, v1, Act.put, List.setIfInBounds_toArray, List.set_cons_zero, List.set_cons_succ]
            clear hT v0 v1
            have HB40 := Aside0.mk (below_step HB39.out hb40)
            have HRO_40 := Aside0.mk (Kd.R_below HRO_39.out hb40)
            have HRD_40 := Aside0.mk (Kd.R_below HRD_39.out hb40)
            have HRK_40 := Aside0.mk (Kd.R_below HRK_39.out hb40)
            have Kg37_38_39_40 := Aside0.mk (blk_below Kg37_38_39.out hb40)
            clear hb40
            go_upto_region 12 with fail
            refine Flow.seqT_head (E := fun u v => Below u.heap.size u v) 3 [(some 44, []), (some 45, []), (some 46, [1]), (some 47, [0, 2]), (some 4, [3, 3, 0, 1, 2, 3])] (fun iQ vQ wQ => match iQ with | 0 => vQ = u4 | 1 => vQ = (.agg #[.int .i64 x.kind, .int .i64 x.cmd, .int .i64 x.zone, .int .i64 x.at_, .int .i64 x.n, .slice Ad x.data.length cd, .bool x.fua, .int .i64 x.m, .int .i64 x.k, .slice Ak x.keep.length ck]) | 2 => SliceAt #[.int .i64 x.kind, .int .i64 x.cmd, .int .i64 x.zone, .int .i64 x.at_, .int .i64 x.n, .slice Ad x.data.length cd, .bool x.fua, .int .i64 x.m, .int .i64 x.k, .slice Ak x.keep.length ck] 56 1 w.heap.size vQ wQ | _ => True) rfl (by decide) (by kernel_rfl) (Below.refl _ _) (fun _ _ _ h k => h.trans (k.mono h.size)) (fun iQ vQ w1Q w2Q hQ hEQ => match iQ, hQ with | 0, hQ => hQ | 1, hQ => hQ | 2, hQ => slice_below hQ hEQ | _ + 3, _ => trivial) ?_ ?_
            · refine ⟨?_, ?_, ?_, trivial⟩
              · intro a w' hx hu hd K hK; have e4 : a.tmps.getD 4 undef = u4 := hu 4 rfl; exact Flow.run1 rfl (Flow.r_move rfl e4) (hK _ _ (Below.refl _ _) rfl)
              · intro a w' hx hu hd K hK; have e8 : a.tmps.getD 8 undef = (.pointer (some ⟨g37, 0, none⟩)) := hu 8 rfl; exact Flow.run1 rfl (ldrow rfl e8 (lies_block (blk_below Kg37_38_39_40.out hx)) Tryd.underlying56 rfl size56) (hK _ _ (Below.refl _ _) rfl)
              · intro a w' hx hu hd K hK; have e45 := Flow.got (hd 1 rfl) 45 rfl; exact Flow.run1 rfl (row1_59 rfl e45) (hK _ _ (below_alloc (Below.refl _ _) _) (slice_new (Nat.le_trans (HB40.out).size (hx : Below _ _ _).size)))
            intro vs W41 hb41 hT
            have v0 := Flow.eqn (hT 0 (by decide))
            have v1 := Flow.eqn (hT 1 (by decide))
            obtain ⟨g41_2, v2, hge2, hk2⟩ : SliceAt _ _ _ _ _ _ := hT 2 (by decide)
            have Kg41_2 := Aside0.mk hk2
            have Gg41_2 := Aside0.mk hge2
            clear hk2 hge2
            simp only [Flow.putsT, v0, v1, v2, Act.put, List.setIfInBounds_toArray, List.set_cons_zero, List.set_cons_succ, List.drop_succ_cons, List.drop_zero, List.take_succ_cons, List.take_zero]
            clear hT v0 v1 v2
            have HB41 := Aside0.mk (below_step HB40.out hb41)
            have HRO_41 := Aside0.mk (Kd.R_below HRO_40.out hb41)
            have HRD_41 := Aside0.mk (Kd.R_below HRD_40.out hb41)
            have HRK_41 := Aside0.mk (Kd.R_below HRK_40.out hb41)
            have Kg37_38_39_40_41 := Aside0.mk (blk_below Kg37_38_39_40.out hb41)
            clear hb41
            refine app56 (w0 := w) (base := w.heap.size) (g := g41_2) (x := x) (vd := .slice Ad x.data.length cd) (vk := .slice Ak x.keep.length ck) (l := acc) rfl rfl rfl rfl HRO_41.out HRD_41.out HRK_41.out Kg41_2.out HB41.out HB41.out.size (by omega) ?_
            intro v42 W42 hr42 hb42
            have HRO_42 := Aside0.mk hr42
            have HB42 := Aside0.mk hb42
            clear hr42 hb42
            simp only [Act.put, List.setIfInBounds_toArray, List.set_cons_zero, List.set_cons_succ]
            refine Flow.seqL (E := fun u v => Below u.heap.size u v) 4 1 [(some 44, []), (some 45, []), (some 46, [1]), (some 47, [0, 2]), (some 4, [3, 3, 0, 1, 2, 3])] (fun iQ vQ wQ => match iQ with | 4 => vQ = v42 | _ => True) rfl (by decide) (by kernel_rfl) (Below.refl _ _) (fun _ _ _ h k => h.trans (k.mono h.size)) (fun _ _ _ _ h _ => h) ?_ ?_
            · refine ⟨?_, trivial⟩
              · intro a w' hx hu hd K hK; have e47 : a.tmps.getD 47 undef = v42 := hu 47 rfl; exact Flow.run1 rfl (Flow.r_assign rfl e47) (hK _ _ (Below.refl _ _) rfl)
            intro vs W43 hb43 hT
            have v4 := Flow.eqn (hT 4 (by decide) (by decide))
            simp only [Flow.putsT, v4, Act.put, List.setIfInBounds_toArray, List.set_cons_zero, List.set_cons_succ, List.drop_succ_cons, List.drop_zero, List.take_succ_cons, List.take_zero]
            clear hT v4
            have HB43 := Aside0.mk (below_step HB42.out hb43)
            have HRO_43 := Aside0.mk (Kd.R_below HRO_42.out hb43)
            clear hb43
            go_upto_region 13 with fail
            refine Flow.seqT (E := fun u v => Below u.heap.size u v) [(some 5, [])] (fun iQ vQ wQ => match iQ with | 0 => vQ = (.string ⟨#[]⟩) | _ => True) rfl (by kernel_rfl) (Below.refl _ _) (fun _ _ _ h k => h.trans (k.mono h.size)) (fun _ _ _ _ h _ => h) ?_ ?_
            · refine ⟨?_, trivial⟩
              · intro a w' hx hu hd K hK; exact Flow.run1 rfl (Flow.r_assign rfl rfl) (hK _ _ (Below.refl _ _) rfl)
            intro vs W44 hb44 hT
            have v0 := Flow.eqn (hT 0 (by decide))
            simp only [Flow.putsT, v0, Act.put, List.setIfInBounds_toArray, List.set_cons_zero, List.set_cons_succ]
            clear hT v0
            have HB44 := Aside0.mk (below_step HB43.out hb44)
            have HRO_44 := Aside0.mk (Kd.R_below HRO_43.out hb44)
            clear hb44
            go_upto_region 14 with fail
            refine Flow.seqT (E := fun u v => Below u.heap.size u v) [(some 48, []), (some 49, [0]), (some 6, [1, 0, 1])] (fun iQ vQ wQ => match iQ with | 0 => vQ = (.int .i64 k1) | 1 => vQ = (.int .i64 k2) | 2 => vQ = (.int .i64 k2) | _ => True) rfl (by kernel_rfl) (Below.refl _ _) (fun _ _ _ h k => h.trans (k.mono h.size)) (fun _ _ _ _ h _ => h) ?_ ?_
            · refine ⟨?_, ?_, ?_, trivial⟩
              · intro a w' hx hu hd K hK; have e6 : a.tmps.getD 6 undef = (.int .i64 k1) := hu 6 rfl; exact Flow.run1 rfl (Flow.r_move rfl e6) (hK _ _ (Below.refl _ _) rfl)
              · intro a w' hx hu hd K hK; have e48 := Flow.got (hd 0 rfl) 48 rfl; exact Flow.run1 rfl (addk rfl e48 rfl (by omega) (by omega) (by omega)) (hK _ _ (Below.refl _ _) rfl)
              · intro a w' hx hu hd K hK; have e49 := Flow.got (hd 1 rfl) 49 rfl; exact Flow.run1 rfl (Flow.r_assign rfl e49) (hK _ _ (Below.refl _ _) rfl)
            intro vs W45 hb45 hT
            have v0 := Flow.eqn (hT 0 (by decide))
            have v1 := Flow.eqn (hT 1 (by decide))
            have v2 := Flow.eqn (hT 2 (by decide))
            simp only [Flow.putsT, v0, v1, v2, Act.put, List.setIfInBounds_toArray, List.set_cons_zero, List.set_cons_succ]
            clear hT v0 v1 v2
            have HB45 := Aside0.mk (below_step HB44.out hb45)
            have HRO_45 := Aside0.mk (Kd.R_below HRO_44.out hb45)
            clear hb45
            go_upto_region 5 with fail
            refine Flow.seqT (E := fun u v => Below u.heap.size u v) [(some 14, []), (some 15, [0]), (some 7, [1, 0, 1])] (fun iQ vQ wQ => match iQ with | 0 => vQ = (.int .i64 i) | 1 => vQ = (.int .i64 i1) | 2 => vQ = (.int .i64 i1) | _ => True) rfl (by kernel_rfl) (Below.refl _ _) (fun _ _ _ h k => h.trans (k.mono h.size)) (fun _ _ _ _ h _ => h) ?_ ?_
            · refine ⟨?_, ?_, ?_, trivial⟩
              · intro a w' hx hu hd K hK; have e7 : a.tmps.getD 7 undef = (.int .i64 i) := hu 7 rfl; exact Flow.run1 rfl (Flow.r_move rfl e7) (hK _ _ (Below.refl _ _) rfl)
              · intro a w' hx hu hd K hK; have e14 := Flow.got (hd 0 rfl) 14 rfl; exact Flow.run1 rfl (addk rfl e14 rfl (by omega) (by omega) (by omega)) (hK _ _ (Below.refl _ _) rfl)
              · intro a w' hx hu hd K hK; have e15 := Flow.got (hd 1 rfl) 15 rfl; exact Flow.run1 rfl (Flow.r_assign rfl e15) (hK _ _ (Below.refl _ _) rfl)
            intro vs W46 hb46 hT
            have v0 := Flow.eqn (hT 0 (by decide))
            have v1 := Flow.eqn (hT 1 (by decide))
            have v2 := Flow.eqn (hT 2 (by decide))
            simp only [Flow.putsT, v0, v1, v2, Act.put, List.setIfInBounds_toArray, List.set_cons_zero, List.set_cons_succ]
            clear hT v0 v1 v2
            have HB46 := Aside0.mk (below_step HB45.out hb46)
            have HRO_46 := Aside0.mk (Kd.R_below HRO_45.out hb46)
            clear hb46
            go_wp2
            go_roundg (s.size + 1 - (i + 1))
            case measure => have := HGI.out; omega
            case rel => exact ⟨i1, k1, k2, _, by omega, ⟨by omega⟩, ⟨hk2, by omega, Nat.zero_le _⟩, rfl, rfl, rfl, HB46, acc ++ [x], ⟨by rw [List.length_append]; simp only [List.length_cons, List.length_nil]; omega⟩, HRO_46, ⟨by rw [← HRE.out, resL_step hz (by rw [HX.out]), HX.out, hk1]; rfl⟩⟩
          | false =>
            go_upto_region 10 with fail
            refine Flow.seqT (E := fun u v => Below u.heap.size u v) [(some 40, []), (some 41, [0])] (fun iQ vQ wQ => match iQ with | 0 => vQ = (.bool false) | 1 => vQ = (.bool true) | _ => True) rfl (by kernel_rfl) (Below.refl _ _) (fun _ _ _ h k => h.trans (k.mono h.size)) (fun _ _ _ _ h _ => h) ?_ ?_
            · refine ⟨?_, ?_, trivial⟩
              · intro a w' hx hu hd K hK; have e9 : a.tmps.getD 9 undef = (.bool false) := hu 9 rfl; exact Flow.run1 rfl (Flow.r_move rfl e9) (hK _ _ (Below.refl _ _) rfl)
              · intro a w' hx hu hd K hK; have e40 := Flow.got (hd 0 rfl) 40 rfl; exact Flow.run1 rfl (Flow.r_not rfl e40) (hK _ _ (Below.refl _ _) rfl)
            intro vs W47 hb47 hT
            have v0 := Flow.eqn (hT 0 (by decide))
            have v1 := Flow.eqn (hT 1 (by decide))
            simp only [Flow.putsT, v0, v1, Act.put, List.setIfInBounds_toArray, List.set_cons_zero, List.set_cons_succ]
            clear hT v0 v1
            have HB47 := Aside0.mk (below_step HB39.out hb47)
            have HRO_47 := Aside0.mk (Kd.R_below HRO_39.out hb47)
            have HRD_47 := Aside0.mk (Kd.R_below HRD_39.out hb47)
            have HRK_47 := Aside0.mk (Kd.R_below HRK_39.out hb47)
            have Kg37_38_39_47 := Aside0.mk (blk_below Kg37_38_39.out hb47)
            clear hb47
            go_upto_region 11 with fail
            refine Flow.seqT (E := fun u v => Below u.heap.size u v) [(some 42, []), (some 43, []), (some 2, [0, 0]), (some 3, [1, 2, 0, 1, 2])] (fun iQ vQ wQ => match iQ with | 0 => vQ = u4 | 1 => vQ = (.int .i64 k1) | 2 => vQ = u4 | 3 => vQ = (.int .i64 k1) | _ => True) rfl (by kernel_rfl) (Below.refl _ _) (fun _ _ _ h k => h.trans (k.mono h.size)) (fun _ _ _ _ h _ => h) ?_ ?_
            · refine ⟨?_, ?_, ?_, ?_, trivial⟩
              · intro a w' hx hu hd K hK; have e4 : a.tmps.getD 4 undef = u4 := hu 4 rfl; exact Flow.run1 rfl (Flow.r_move rfl e4) (hK _ _ (Below.refl _ _) rfl)
              · intro a w' hx hu hd K hK; have e6 : a.tmps.getD 6 undef = (.int .i64 k1) := hu 6 rfl; exact Flow.run1 rfl (Flow.r_move rfl e6) (hK _ _ (Below.refl _ _) rfl)
              · intro a w' hx hu hd K hK; have e42 := Flow.got (hd 0 rfl) 42 rfl; exact Flow.run1 rfl (Flow.r_assign rfl e42) (hK _ _ (Below.refl _ _) rfl)
              · intro a w' hx hu hd K hK; have e43 := Flow.got (hd 1 rfl) 43 rfl; exact Flow.run1 rfl (Flow.r_assign rfl e43) (hK _ _ (Below.refl _ _) rfl)
            intro vs W48 hb48 hT
            have v0 := Flow.eqn (hT 0 (by decide))
            have v1 := Flow.eqn (hT 1 (by decide))
            have v2 := Flow.eqn (hT 2 (by decide))
            have v3 := Flow.eqn (hT 3 (by decide))
            simp only [Flow.putsT, v0, v1, v2, v3, Act.put, List.setIfInBounds_toArray, List.set_cons_zero, List.set_cons_succ]
            clear hT v0 v1 v2 v3
            have HB48 := Aside0.mk (below_step HB47.out hb48)
            have HRO_48 := Aside0.mk (Kd.R_below HRO_47.out hb48)
            have HRD_48 := Aside0.mk (Kd.R_below HRD_47.out hb48)
            have HRK_48 := Aside0.mk (Kd.R_below HRK_47.out hb48)
            have Kg37_38_39_47_48 := Aside0.mk (blk_below Kg37_38_39_47.out hb48)
            clear hb48
            obtain rfl : r = (acc, (k1 : Int)) := by rw [← hk1]; exact HRE.out.symm.trans (resL_bad hz (by rw [HX.out]))
            go_wp2_with fail
            exact bodyPost_ret (results_tmp2 Tryd.results31 _ _ _) rfl ⟨_, rfl, HRO_48.out, HB48.out⟩
    · have hle2 : ¬ (i : Int) ≤ s.size := by omega
      go_upto_region 4 with fail
      refine Flow.seqT (E := fun u v => Below u.heap.size u v) [(some 10, []), (some 11, []), (some 12, [1]), (some 13, [0, 2])] (fun iQ vQ wQ => match iQ with | 0 => vQ = (.int .i64 i) | 1 => vQ = (.string s) | 2 => vQ = (.int .i64 ((s).size)) | 3 => vQ = (.bool false) | _ => True) rfl (by kernel_rfl) (Below.refl _ _) (fun _ _ _ h k => h.trans (k.mono h.size)) (fun _ _ _ _ h _ => h) ?_ ?_
      · refine ⟨?_, ?_, ?_, ?_, trivial⟩
        · intro a w' hx hu hd K hK; have e7 : a.tmps.getD 7 undef = (.int .i64 i) := hu 7 rfl; exact Flow.run1 rfl (Flow.r_move rfl e7) (hK _ _ (Below.refl _ _) rfl)
        · intro a w' hx hu hd K hK; have e0 : a.tmps.getD 0 undef = (.string s) := hu 0 rfl; exact Flow.run1 rfl (Flow.r_move rfl e0) (hK _ _ (Below.refl _ _) rfl)
        · intro a w' hx hu hd K hK; have e11 := Flow.got (hd 1 rfl) 11 rfl; exact Flow.run1 rfl (lenS Tryd.underlying9 rfl e11) (hK _ _ (Below.refl _ _) rfl)
        · intro a w' hx hu hd K hK; have e10 := Flow.got (hd 0 rfl) 10 rfl; have e12 := Flow.got (hd 2 rfl) 12 rfl; exact Flow.run1 rfl (no (leq rfl e10 e12) (decide_eq_false hle2)) (hK _ _ (Below.refl _ _) rfl)
      intro vs W49 hb49 hT
      have v0 := Flow.eqn (hT 0 (by decide))
      have v1 := Flow.eqn (hT 1 (by decide))
      have v2 := Flow.eqn (hT 2 (by decide))
      have v3 := Flow.eqn (hT 3 (by decide))
      simp only [Flow.putsT, v0, v1, v2, v3, Act.put, List.setIfInBounds_toArray, List.set_cons_zero, List.set_cons_succ]
      clear hT v0 v1 v2 v3
      have HB49 := Aside0.mk (below_step HBR.out hb49)
      have HRO_49 := Aside0.mk (Kd.R_below HRO.out hb49)
      clear hb49
      go_upto_region 15 with fail
      refine Flow.seqT (E := fun u v => Below u.heap.size u v) [(some 50, []), (some 2, [0, 0]), (some 3, [1, 0, 1])] (fun iQ vQ wQ => match iQ with | 0 => vQ = u4 | 1 => vQ = u4 | 2 => vQ = (.int .i64 0) | _ => True) rfl (by kernel_rfl) (Below.refl _ _) (fun _ _ _ h k => h.trans (k.mono h.size)) (fun _ _ _ _ h _ => h) ?_ ?_
      · refine ⟨?_, ?_, ?_, trivial⟩
        · intro a w' hx hu hd K hK; have e4 : a.tmps.getD 4 undef = u4 := hu 4 rfl; exact Flow.run1 rfl (Flow.r_move rfl e4) (hK _ _ (Below.refl _ _) rfl)
        · intro a w' hx hu hd K hK; have e50 := Flow.got (hd 0 rfl) 50 rfl; exact Flow.run1 rfl (Flow.r_assign rfl e50) (hK _ _ (Below.refl _ _) rfl)
        · intro a w' hx hu hd K hK; exact Flow.run1 rfl (Flow.r_assign rfl rfl) (hK _ _ (Below.refl _ _) rfl)
      intro vs W50 hb50 hT
      have v0 := Flow.eqn (hT 0 (by decide))
      have v1 := Flow.eqn (hT 1 (by decide))
      have v2 := Flow.eqn (hT 2 (by decide))
      simp only [Flow.putsT, v0, v1, v2, Act.put, List.setIfInBounds_toArray, List.set_cons_zero, List.set_cons_succ]
      clear hT v0 v1 v2
      have HB50 := Aside0.mk (below_step HB49.out hb50)
      have HRO_50 := Aside0.mk (Kd.R_below HRO_49.out hb50)
      clear hb50
      obtain rfl : r = (acc, 0) := by rw [← HRES.out, restL_end hle]; rfl
      go_wp2_with fail
      exact bodyPost_ret (results_tmp2 Tryd.results31 _ _ _) rfl ⟨_, rfl, HRO_50.out, HB50.out⟩
end Go.Proofs.YtlhmpmmblnbmbaaDoor.Con
namespace Go.Proofs.YtlhmpmmblnbmbaaDoor.Con
open Go.Lib Go.RowKit Go.Proofs.YtlhmpmmblnbmbaaDoor.Cells Go.Proofs.YtlhmpmmblnbmbaaDoor.PConsoleParses Go.Proofs.YtlhmpmmblnbmbaaDoorW.PrintWords Go.Proofs.YtlhmpmmblnbmbaaDoorW.PrintLast Go.Proofs.YtlhmpmmblnbmbaaDoorW.PrintMore WordsPlain NumberPlain
def LINE : ByteArray := ⟨#[119, 114, 105, 116, 101, 32, 49, 32, 48, 32, 48, 97, 48, 98, 32, 102, 117, 97]⟩
def xL : A10 := ⟨0, 0, 1, 0, 0, [10, 11], true, 0, 0, []⟩
def hxL (t : ByteArray) : List Int × Bool := if t = ⟨#[48, 97, 48, 98]⟩ then ([10, 11], true) else ([], false)
theorem line_words : words LINE = [⟨#[119, 114, 105, 116, 101]⟩, ⟨#[49]⟩, ⟨#[48]⟩, ⟨#[48, 97, 48, 98]⟩, ⟨#[102, 117, 97]⟩] := by decide +kernel
theorem line_parse : parse hxL LINE = (xL, true) := by kernel_rfl
theorem line_hex : ∀ t ∈ (words LINE).tail, ∃ k, console_Hex.f k t = some (hxL t) := by
  rw [line_words]
  intro t ht
  simp only [List.tail_cons, List.mem_cons, List.not_mem_nil, or_false] at ht
  rcases ht with rfl | rfl | rfl | rfl <;> exact ⟨10, by decide +kernel⟩
theorem line_c (w : World) : Calls Tryd.prog 28 #[.string LINE] w (ParsePost w xL true) := by
  have := parse_c hxL LINE (by decide) line_hex w
  rw [line_parse] at this
  exact this
theorem words_len (s : ByteArray) : (words s).length ≤ s.size + 1 := by
  have := scan_len s s.size
  unfold words
  simp only []
  split
  · rw [List.length_append]; simp; omega
  · omega
set_option maxHeartbeats 4000000 in
set_option maxRecDepth 100000 in
theorem live_c (w : World) : Calls Tryd.prog 27 #[] w fun e w' => e = .returned (.bool true) ∧ Below w.heap.size w w' := by
  have hu1 := Tryd.underlying56
  have hu2 := Tryd.underlying54
  have hu3 := Tryd.underlying43
  have hu9 := Tryd.underlying9
  have HSS := Aside0.mk (show strOfNums xL.data = ⟨#[10, 11]⟩ by decide +kernel)
  go_enter Tryd.func27, Tryd.ntmps27
  go_wp2_with (first | (go_at_call 28; refine (line_c _).mono ?_; rintro e wb ⟨vd, vk, rfl, hRd, hRk, hbb⟩; have HB := Aside0.mk hbb; obtain ⟨Ad, cd, hvd, -, -⟩ := Kd.R_reads hRd; obtain ⟨Ak, ck, hvk, -, -⟩ := Kd.R_reads hRk; subst hvd; subst hvk; have HRD := Aside0.mk hRd; clear hbb hRd hRk) | ((with_reducible refine gate_dst (N := 1) rfl ?_); refine Cells.alloc_event rfl (N := 1) rfl 56 rfl zero56 zero74_is ?_; intro g1 hg1 wd k1 hbd; have HBD := Aside0.mk hbd; have HG1 := Aside0.mk (show wb.heap.size ≤ g1 by rw [hg1]; exact Nat.le_refl _); have HG1b := Aside0.mk hg1; clear hbd hg1) | ((with_reducible refine Cells.store_whole rfl rfl 56 _ _ rfl g1 (cellsA xL (.slice Ad xL.data.length cd) (.slice Ak xL.keep.length ck)) zero56.cells ?sx ?sy k1 ?ss ?si ?s1 ?_); (case sx => rfl); (case sy => rfl); (case ss => rfl); (case si => exact size56); (case s1 => rfl); intro w9 k9 hfar hb3; have hb9 := HBD.out.trans (hb3 _ (by rw [HG1b.out]; exact Nat.le_refl _)); have HB9 := Aside0.mk (below_step HB.out hb9); have hcv := own_string (P := Tryd.prog) Tryd.underlying43 Tryd.underlying5 Tryd.underlying9 (Kd.own_of_R (Kd.R_below HRD.out hb9)); rw [HSS.out] at hcv; clear hb3 hfar k1 hb9; have c2 : w9.cell? ⟨g1, 2, none⟩ = some (.int .i64 1) := (blk_cell k9 2).trans rfl; have c5 : w9.cell? ⟨g1, 5, none⟩ = some (.slice Ad xL.data.length cd) := (blk_cell k9 5).trans rfl; have c6 : w9.cell? ⟨g1, 6, none⟩ = some (.bool true) := (blk_cell k9 6).trans rfl; clear k9))
  go_ret
  exact ⟨rfl, HB9.out⟩
end Go.Proofs.YtlhmpmmblnbmbaaDoor.Con
set_option linter.unusedVariables false
set_option linter.unusedSimpArgs false
namespace Go.Proofs.YtlhmpmmblnbmbaaDoor.Con
open Go.Lib Go.RowKit Go.Proofs.YtlhmpmmblnbmbaaDoor.Ev Go.Proofs.YtlhmpmmblnbmbaaDoor.Ke Go.Proofs.YtlhmpmmblnbmbaaDoor.Cells Go.Proofs.YtlhmpmmblnbmbaaDoor.PConsoleParses Go.Proofs.YtlhmpmmblnbmbaaDoorW.PrintWords Go.Proofs.YtlhmpmmblnbmbaaDoorW.PrintLast Go.Proofs.YtlhmpmmblnbmbaaDoorW.PrintMore WordsPlain NumberPlain Go.Proofs.YtlhmpmmblnbmbaaDoor.Lines
def LV (r : List A10 × Int) (v : Value) (w : World) : Prop := ∃ A c, v = .tuple #[.slice A r.1.length c, .int .i64 r.2] ∧ Kd.C k56 w A r.1.length (r.1.map toS)
theorem LV.below {r : List A10 × Int} {v : Value} {w w1 : World} (h : LV r v w) (hb : Below w.heap.size w w1) : LV r v w1 := by
  obtain ⟨A, c, e, h⟩ := h
  exact ⟨A, c, e, Kd.C_below h hb⟩
theorem LV.of {r : List A10 × Int} {base : Nat} {v : Value} {w : World} (h : k56.R 56 w base (fun _ => True) v (r.1.map toS)) : LV r (.tuple #[v, .int .i64 r.2]) w := by
  obtain ⟨A, c, rfl, -, h⟩ := Kd.R_reads h
  rw [List.length_map] at h ⊢
  exact ⟨A, c, rfl, h⟩
set_option maxHeartbeats 4000000 in
set_option maxRecDepth 100000 in
theorem lawparses_c (s : ByteArray) (w : World) (m : Int) (hm : w.cell? ⟨0, 0, none⟩ = some (.int .i64 m)) : Calls Tryd.prog 6 #[.string s] w fun e w' => e = .returned (.bool true) ∧ Below w.heap.size w w' := by
  have HM := Aside0.mk hm
  clear hm
  go_enter Tryd.func6, Tryd.ntmps6
  go_upto_region 0 with fail
  refine Flow.seqT (E := fun u v => Below u.heap.size u v) [(some 2, [])] (fun iQ vQ wQ => match iQ with | 0 => vQ = (.bool false) | _ => True) rfl (by kernel_rfl) (Below.refl _ _) (fun _ _ _ h k => h.trans (k.mono h.size)) (fun _ _ _ _ h _ => h) ?_ ?_
  · refine ⟨?_, trivial⟩
    · intro a w' hx hu hd K hK; exact Flow.run1 rfl (Flow.r_assign rfl rfl) (hK _ _ (Below.refl _ _) rfl)
  intro vs W1 hb1 hT
  have v0 := Flow.eqn (hT 0 (by decide))
  simp only [Flow.putsT, v0, Act.put, List.setIfInBounds_toArray, List.set_cons_zero, List.set_cons_succ]
  clear hT v0
  have HB1 := Aside0.mk hb1
  clear hb1
  by_cases hlen : (s.size : Int) > 400
  · have HLE := Aside0.mk hlen
    go_upto_region 1 with fail
    refine Flow.seqT (E := fun u v => Below u.heap.size u v) [(some 11, []), (some 12, [0]), (some 13, [1])] (fun iQ vQ wQ => match iQ with | 0 => vQ = (.string s) | 1 => vQ = (.int .i64 ((s).size)) | 2 => vQ = (.bool true) | _ => True) rfl (by kernel_rfl) (Below.refl _ _) (fun _ _ _ h k => h.trans (k.mono h.size)) (fun _ _ _ _ h _ => h) ?_ ?_
    · refine ⟨?_, ?_, ?_, trivial⟩
      · intro a w' hx hu hd K hK; have e0 : a.tmps.getD 0 undef = (.string s) := hu 0 rfl; exact Flow.run1 rfl (Flow.r_move rfl e0) (hK _ _ (Below.refl _ _) rfl)
      · intro a w' hx hu hd K hK; have e11 := Flow.got (hd 0 rfl) 11 rfl; exact Flow.run1 rfl (lenS Tryd.underlying9 rfl e11) (hK _ _ (Below.refl _ _) rfl)
      · intro a w' hx hu hd K hK; have e12 := Flow.got (hd 1 rfl) 12 rfl; exact Flow.run1 rfl (yes (gtr rfl e12 rfl) (decide_eq_true hlen)) (hK _ _ (Below.refl _ _) rfl)
    intro vs W2 hb2 hT
    have v0 := Flow.eqn (hT 0 (by decide))
    have v1 := Flow.eqn (hT 1 (by decide))
    have v2 := Flow.eqn (hT 2 (by decide))
    simp only [Flow.putsT, v0, v1, v2, Act.put, List.setIfInBounds_toArray, List.set_cons_zero, List.set_cons_succ]
    clear hT v0 v1 v2
    have HB2 := Aside0.mk (below_step HB1.out hb2)
    clear hb2
    go_upto_region 2 with fail
    refine Flow.seqT (E := fun u v => Below u.heap.size u v) [(some 14, []), (some 2, [0, 0, 0])] (fun iQ vQ wQ => match iQ with | 0 => vQ = (.bool true) | 1 => vQ = (.bool true) | _ => True) rfl (by kernel_rfl) (Below.refl _ _) (fun _ _ _ h k => h.trans (k.mono h.size)) (fun _ _ _ _ h _ => h) ?_ ?_
    · refine ⟨?_, ?_, trivial⟩
      · intro a w' hx hu hd K hK; refine Flow.want rfl ?_; refine Flow.val_call rfl Tryd.func27 (by kernel_rfl) rfl (by first | (simp only [List.map_toArray, List.map_cons, List.map_nil, Act.eval]; done) | (simp only [List.map_toArray, List.map_cons, List.map_nil, Act.eval]; rfl)) (live_c w') ?_; rintro e w2 ⟨rfl, hb2⟩; exact ⟨_, rfl, hK _ _ hb2 (by rfl)⟩
      · intro a w' hx hu hd K hK; have e14 := Flow.got (hd 0 rfl) 14 rfl; exact Flow.run1 rfl (Flow.r_assign rfl e14) (hK _ _ (Below.refl _ _) rfl)
    intro vs W3 hb3 hT
    have v0 := Flow.eqn (hT 0 (by decide))
    have v1 := Flow.eqn (hT 1 (by decide))
    simp only [Flow.putsT, v0, v1, Act.put, List.setIfInBounds_toArray, List.set_cons_zero, List.set_cons_succ]
    clear hT v0 v1
    have HB3 := Aside0.mk (below_step HB2.out hb3)
    clear hb3
    go_wp2
    go_ret
    exact ⟨rfl, HB3.out⟩
  · have HLE := Aside0.mk hlen
    go_upto_region 1 with fail
    refine Flow.seqT (E := fun u v => Below u.heap.size u v) [(some 11, []), (some 12, [0]), (some 13, [1])] (fun iQ vQ wQ => match iQ with | 0 => vQ = (.string s) | 1 => vQ = (.int .i64 ((s).size)) | 2 => vQ = (.bool false) | _ => True) rfl (by kernel_rfl) (Below.refl _ _) (fun _ _ _ h k => h.trans (k.mono h.size)) (fun _ _ _ _ h _ => h) ?_ ?_
    · refine ⟨?_, ?_, ?_, trivial⟩
      · intro a w' hx hu hd K hK; have e0 : a.tmps.getD 0 undef = (.string s) := hu 0 rfl; exact Flow.run1 rfl (Flow.r_move rfl e0) (hK _ _ (Below.refl _ _) rfl)
      · intro a w' hx hu hd K hK; have e11 := Flow.got (hd 0 rfl) 11 rfl; exact Flow.run1 rfl (lenS Tryd.underlying9 rfl e11) (hK _ _ (Below.refl _ _) rfl)
      · intro a w' hx hu hd K hK; have e12 := Flow.got (hd 1 rfl) 12 rfl; exact Flow.run1 rfl (no (gtr rfl e12 rfl) (decide_eq_false hlen)) (hK _ _ (Below.refl _ _) rfl)
    intro vs W4 hb4 hT
    have v0 := Flow.eqn (hT 0 (by decide))
    have v1 := Flow.eqn (hT 1 (by decide))
    have v2 := Flow.eqn (hT 2 (by decide))
    simp only [Flow.putsT, v0, v1, v2, Act.put, List.setIfInBounds_toArray, List.set_cons_zero, List.set_cons_succ]
    clear hT v0 v1 v2
    have HB4 := Aside0.mk (below_step HB1.out hb4)
    clear hb4
    have hs4 : s.size ≤ 400 := by omega
    obtain ⟨⟨x, ok⟩, HX⟩ : ∃ q, Aside0 (parse hexF s = q) := ⟨_, ⟨rfl⟩⟩
    obtain ⟨r, HRR⟩ : ∃ q, Aside0 (resL hexF (linesB s.data.toList) 0 [] = q) := ⟨_, ⟨rfl⟩⟩
    have hrl : r.1.length ≤ 1000000 := by have h1 := resL_len hexF (linesB s.data.toList) 0 []; have h2 := linesB_len s; rw [HRR.out] at h1; rw [List.length_nil] at h1; omega
    go_upto_region 3 with fail
    refine Flow.seqT_head (E := fun u v => Below u.heap.size u v) 2 [(some 16, []), (some 17, [0]), (some 15, [1]), (some 18, [2]), (some 19, [2]), (some 3, []), (none, [5, 3, 1, 0, 1, 2, 3, 5]), (some 4, [4, 6, 0, 1, 2, 3, 4, 5, 6])] (fun iQ vQ wQ => match iQ with | 0 => vQ = (.string s) | 1 => PV x ok w.heap.size vQ wQ | _ => True) rfl (by decide) (by kernel_rfl) (Below.refl _ _) (fun _ _ _ h k => h.trans (k.mono h.size)) (fun iQ vQ w1Q w2Q hQ hEQ => match iQ, hQ with | 0, hQ => hQ | 1, hQ => hQ.below hEQ | _ + 2, _ => trivial) ?_ ?_
    · refine ⟨?_, ?_, trivial⟩
      · intro a w' hx hu hd K hK; have e0 : a.tmps.getD 0 undef = (.string s) := hu 0 rfl; exact Flow.run1 rfl (Flow.r_move rfl e0) (hK _ _ (Below.refl _ _) rfl)
      · intro a w' hx hu hd K hK; have e16 := Flow.got (hd 0 rfl) 16 rfl; refine Flow.want rfl ?_; refine Flow.val_call rfl Tryd.func28 (by kernel_rfl) rfl (by first | (simp only [List.map_toArray, List.map_cons, List.map_nil, Act.eval, e16]; done) | (simp only [List.map_toArray, List.map_cons, List.map_nil, Act.eval, e16]; rfl)) (parse_all s (by omega) w') ?_; rintro e w2 ⟨vd, vk, rfl, hR1, hR2, hb2⟩; exact ⟨_, rfl, hK _ _ hb2 (HX.out ▸ (⟨vd, vk, rfl, Kd.R_lower hR1 (below_step HB4.out hx).size, Kd.R_lower hR2 (below_step HB4.out hx).size⟩ : PV _ _ _ _ _))⟩
    intro vs W5 hb5 hT
    have v0 := Flow.eqn (hT 0 (by decide))
    obtain ⟨vd, vk, v1, hRd, hRk⟩ : PV x ok _ _ _ := hT 1 (by decide)
    obtain ⟨Ad, cd, rfl, -, -⟩ := Kd.R_reads hRd
    obtain ⟨Ak, ck, rfl, -, -⟩ := Kd.R_reads hRk
    have HRD := Aside0.mk hRd
    have HRK := Aside0.mk hRk
    clear hRd hRk
    simp only [Flow.putsT, v0, v1, Act.put, List.setIfInBounds_toArray, List.set_cons_zero, List.set_cons_succ, List.drop_succ_cons, List.drop_zero, List.take_succ_cons, List.take_zero]
    clear hT v0 v1
    have HB5 := Aside0.mk (below_step HB4.out hb5)
    clear hb5
    refine Flow.seqL (E := fun u v => Below u.heap.size u v) 2 3 [(some 16, []), (some 17, [0]), (some 15, [1]), (some 18, [2]), (some 19, [2]), (some 3, []), (none, [5, 3, 1, 0, 1, 2, 3, 5]), (some 4, [4, 6, 0, 1, 2, 3, 4, 5, 6])] (fun iQ vQ wQ => match iQ with | 2 => vQ = (.tuple #[.agg #[.int .i64 x.kind, .int .i64 x.cmd, .int .i64 x.zone, .int .i64 x.at_, .int .i64 x.n, .slice Ad x.data.length cd, .bool x.fua, .int .i64 x.m, .int .i64 x.k, .slice Ak x.keep.length ck], .bool ok]) | 3 => vQ = (.agg #[.int .i64 x.kind, .int .i64 x.cmd, .int .i64 x.zone, .int .i64 x.at_, .int .i64 x.n, .slice Ad x.data.length cd, .bool x.fua, .int .i64 x.m, .int .i64 x.k, .slice Ak x.keep.length ck]) | 4 => vQ = (.bool ok) | _ => True) rfl (by decide) (by kernel_rfl) (Below.refl _ _) (fun _ _ _ h k => h.trans (k.mono h.size)) (fun _ _ _ _ h _ => h) ?_ ?_
    · refine ⟨?_, ?_, ?_, trivial⟩
      · intro a w' hx hu hd K hK; have e17 : a.tmps.getD 17 undef = (.tuple #[.agg #[.int .i64 x.kind, .int .i64 x.cmd, .int .i64 x.zone, .int .i64 x.at_, .int .i64 x.n, .slice Ad x.data.length cd, .bool x.fua, .int .i64 x.m, .int .i64 x.k, .slice Ak x.keep.length ck], .bool ok]) := hu 17 rfl; exact Flow.run1 rfl (Flow.r_move rfl e17) (hK _ _ (Below.refl _ _) rfl)
      · intro a w' hx hu hd K hK; have e15 := Flow.got (hd 2 rfl) 15 rfl; exact Flow.run1 rfl (extr rfl e15 rfl) (hK _ _ (Below.refl _ _) rfl)
      · intro a w' hx hu hd K hK; have e15 := Flow.got (hd 2 rfl) 15 rfl; exact Flow.run1 rfl (extr rfl e15 rfl) (hK _ _ (Below.refl _ _) rfl)
    intro vs W6 hb6 hT
    have v2 := Flow.eqn (hT 2 (by decide) (by decide))
    have v3 := Flow.eqn (hT 3 (by decide) (by decide))
    have v4 := Flow.eqn (hT 4 (by decide) (by decide))
    simp only [Flow.putsT, v2, v3, v4, Act.put, List.setIfInBounds_toArray, List.set_cons_zero, List.set_cons_succ, List.drop_succ_cons, List.drop_zero, List.take_succ_cons, List.take_zero]
    clear hT v2 v3 v4
    have HB6 := Aside0.mk (below_step HB5.out hb6)
    have HRD_6 := Aside0.mk (Kd.R_below HRD.out hb6)
    have HRK_6 := Aside0.mk (Kd.R_below HRK.out hb6)
    clear hb6
    refine ealloc rfl rfl zero56_is ?_
    intro g7 hg7 W7 hk7 hb7
    have Kg7 := Aside0.mk hk7
    have HB7 := Aside0.mk (below_step HB6.out hb7)
    have HRD_7 := Aside0.mk (Kd.R_below HRD_6.out hb7)
    have HRK_7 := Aside0.mk (Kd.R_below HRK_6.out hb7)
    clear hb7
    have Gg7 := Aside0.mk (show w.heap.size ≤ g7 by rw [hg7]; exact HB6.out.size)
    clear hg7 hk7
    simp only [Act.put, List.setIfInBounds_toArray, List.set_cons_zero, List.set_cons_succ]
    refine Cells.store_whole rfl rfl 56 _ _ rfl g7 [.int .i64 x.kind, .int .i64 x.cmd, .int .i64 x.zone, .int .i64 x.at_, .int .i64 x.n, .slice Ad x.data.length cd, .bool x.fua, .int .i64 x.m, .int .i64 x.k, .slice Ak x.keep.length ck] #[.int .i64 0, .int .i64 0, .int .i64 0, .int .i64 0, .int .i64 0, .slice none 0 0, .bool false, .int .i64 0, .int .i64 0, .slice none 0 0] rfl rfl Kg7.out rfl size56 rfl ?_
    intro W8 hk8 hf8 hb8
    have HRD_8 := Aside0.mk (R_far HRD_7.out Kg7.out (by decide) hf8)
    have HRK_8 := Aside0.mk (R_far HRK_7.out Kg7.out (by decide) hf8)
    have HB8 := Aside0.mk (HB7.out.trans (hb8 _ Gg7.out))
    have Kg7_8 := Aside0.mk hk8
    clear hk8 hf8 hb8
    refine Flow.seqL (E := fun u v => Below u.heap.size u v) 7 1 [(some 16, []), (some 17, [0]), (some 15, [1]), (some 18, [2]), (some 19, [2]), (some 3, []), (none, [5, 3, 1, 0, 1, 2, 3, 5]), (some 4, [4, 6, 0, 1, 2, 3, 4, 5, 6])] (fun iQ vQ wQ => match iQ with | 7 => vQ = (.bool ok) | _ => True) rfl (by decide) (by kernel_rfl) (Below.refl _ _) (fun _ _ _ h k => h.trans (k.mono h.size)) (fun _ _ _ _ h _ => h) ?_ ?_
    · refine ⟨?_, trivial⟩
      · intro a w' hx hu hd K hK; have e19 : a.tmps.getD 19 undef = (.bool ok) := hu 19 rfl; exact Flow.run1 rfl (Flow.r_assign rfl e19) (hK _ _ (Below.refl _ _) rfl)
    intro vs W9 hb9 hT
    have v7 := Flow.eqn (hT 7 (by decide) (by decide))
    simp only [Flow.putsT, v7, Act.put, List.setIfInBounds_toArray, List.set_cons_zero, List.set_cons_succ, List.drop_succ_cons, List.drop_zero, List.take_succ_cons, List.take_zero]
    clear hT v7
    have HB9 := Aside0.mk (below_step HB8.out hb9)
    have HRD_9 := Aside0.mk (Kd.R_below HRD_8.out hb9)
    have HRK_9 := Aside0.mk (Kd.R_below HRK_8.out hb9)
    have Kg7_8_9 := Aside0.mk (blk_below Kg7_8.out hb9)
    clear hb9
    go_upto_region 4 with fail
    refine Flow.seqT_head (E := fun u v => Below u.heap.size u v) 2 [(some 21, []), (some 22, [0]), (some 20, [1]), (some 23, [2]), (some 24, [2]), (some 5, []), (none, [5, 3, 1, 0, 1, 2, 3, 5]), (some 6, [4, 6, 0, 1, 2, 3, 4, 5, 6])] (fun iQ vQ wQ => match iQ with | 0 => vQ = (.string s) | 1 => PV x ok w.heap.size vQ wQ | _ => True) rfl (by decide) (by kernel_rfl) (Below.refl _ _) (fun _ _ _ h k => h.trans (k.mono h.size)) (fun iQ vQ w1Q w2Q hQ hEQ => match iQ, hQ with | 0, hQ => hQ | 1, hQ => hQ.below hEQ | _ + 2, _ => trivial) ?_ ?_
    · refine ⟨?_, ?_, trivial⟩
      · intro a w' hx hu hd K hK; have e0 : a.tmps.getD 0 undef = (.string s) := hu 0 rfl; exact Flow.run1 rfl (Flow.r_move rfl e0) (hK _ _ (Below.refl _ _) rfl)
      · intro a w' hx hu hd K hK; have e21 := Flow.got (hd 0 rfl) 21 rfl; refine Flow.want rfl ?_; refine Flow.val_call rfl Tryd.func29 (by kernel_rfl) rfl (by first | (simp only [List.map_toArray, List.map_cons, List.map_nil, Act.eval, e21]; done) | (simp only [List.map_toArray, List.map_cons, List.map_nil, Act.eval, e21]; rfl)) (rparse_all s (by omega) w') ?_; rintro e w2 ⟨vd, vk, rfl, hR1, hR2, hb2⟩; exact ⟨_, rfl, hK _ _ hb2 (HX.out ▸ (⟨vd, vk, rfl, Kd.R_lower hR1 (below_step HB9.out hx).size, Kd.R_lower hR2 (below_step HB9.out hx).size⟩ : PV _ _ _ _ _))⟩
    intro vs W10 hb10 hT
    have v0 := Flow.eqn (hT 0 (by decide))
    obtain ⟨vd, vk, v1, hRd, hRk⟩ : PV x ok _ _ _ := hT 1 (by decide)
    obtain ⟨Adb, cdb, rfl, -, -⟩ := Kd.R_reads hRd
    obtain ⟨Akb, ckb, rfl, -, -⟩ := Kd.R_reads hRk
    have HRDb := Aside0.mk hRd
    have HRKb := Aside0.mk hRk
    clear hRd hRk
    simp only [Flow.putsT, v0, v1, Act.put, List.setIfInBounds_toArray, List.set_cons_zero, List.set_cons_succ, List.drop_succ_cons, List.drop_zero, List.take_succ_cons, List.take_zero]
    clear hT v0 v1
    have HB10 := Aside0.mk (below_step HB9.out hb10)
    have HRD_10 := Aside0.mk (Kd.R_below HRD_9.out hb10)
    have HRK_10 := Aside0.mk (Kd.R_below HRK_9.out hb10)
    have Kg7_8_9_10 := Aside0.mk (blk_below Kg7_8_9.out hb10)
    clear hb10
    refine Flow.seqL (E := fun u v => Below u.heap.size u v) 2 3 [(some 21, []), (some 22, [0]), (some 20, [1]), (some 23, [2]), (some 24, [2]), (some 5, []), (none, [5, 3, 1, 0, 1, 2, 3, 5]), (some 6, [4, 6, 0, 1, 2, 3, 4, 5, 6])] (fun iQ vQ wQ => match iQ with | 2 => vQ = (.tuple #[.agg #[.int .i64 x.kind, .int .i64 x.cmd, .int .i64 x.zone, .int .i64 x.at_, .int .i64 x.n, .slice Adb x.data.length cdb, .bool x.fua, .int .i64 x.m, .int .i64 x.k, .slice Akb x.keep.length ckb], .bool ok]) | 3 => vQ = (.agg #[.int .i64 x.kind, .int .i64 x.cmd, .int .i64 x.zone, .int .i64 x.at_, .int .i64 x.n, .slice Adb x.data.length cdb, .bool x.fua, .int .i64 x.m, .int .i64 x.k, .slice Akb x.keep.length ckb]) | 4 => vQ = (.bool ok) | _ => True) rfl (by decide) (by kernel_rfl) (Below.refl _ _) (fun _ _ _ h k => h.trans (k.mono h.size)) (fun _ _ _ _ h _ => h) ?_ ?_
    · refine ⟨?_, ?_, ?_, trivial⟩
      · intro a w' hx hu hd K hK; have e22 : a.tmps.getD 22 undef = (.tuple #[.agg #[.int .i64 x.kind, .int .i64 x.cmd, .int .i64 x.zone, .int .i64 x.at_, .int .i64 x.n, .slice Adb x.data.length cdb, .bool x.fua, .int .i64 x.m, .int .i64 x.k, .slice Akb x.keep.length ckb], .bool ok]) := hu 22 rfl; exact Flow.run1 rfl (Flow.r_move rfl e22) (hK _ _ (Below.refl _ _) rfl)
      · intro a w' hx hu hd K hK; have e20 := Flow.got (hd 2 rfl) 20 rfl; exact Flow.run1 rfl (extr rfl e20 rfl) (hK _ _ (Below.refl _ _) rfl)
      · intro a w' hx hu hd K hK; have e20 := Flow.got (hd 2 rfl) 20 rfl; exact Flow.run1 rfl (extr rfl e20 rfl) (hK _ _ (Below.refl _ _) rfl)
    intro vs W11 hb11 hT
    have v2 := Flow.eqn (hT 2 (by decide) (by decide))
    have v3 := Flow.eqn (hT 3 (by decide) (by decide))
    have v4 := Flow.eqn (hT 4 (by decide) (by decide))
    simp only [Flow.putsT, v2, v3, v4, Act.put, List.setIfInBounds_toArray, List.set_cons_zero, List.set_cons_succ, List.drop_succ_cons, List.drop_zero, List.take_succ_cons, List.take_zero]
    clear hT v2 v3 v4
    have HB11 := Aside0.mk (below_step HB10.out hb11)
    have HRD_11 := Aside0.mk (Kd.R_below HRD_10.out hb11)
    have HRK_11 := Aside0.mk (Kd.R_below HRK_10.out hb11)
    have HRDb_11 := Aside0.mk (Kd.R_below HRDb.out hb11)
    have HRKb_11 := Aside0.mk (Kd.R_below HRKb.out hb11)
    have Kg7_8_9_10_11 := Aside0.mk (blk_below Kg7_8_9_10.out hb11)
    clear hb11
    refine ealloc rfl rfl zero56_is ?_
    intro g12 hg12 W12 hk12 hb12
    have Kg12 := Aside0.mk hk12
    have Ng12_g7 := Aside0.mk (show g7 ≠ g12 by have := (Array.getElem?_eq_some_iff.1 Kg7_8_9_10_11.out).1; omega)
    have Ng7_g12 := Aside0.mk (Ne.symm Ng12_g7.out)
    have HB12 := Aside0.mk (below_step HB11.out hb12)
    have HRD_12 := Aside0.mk (Kd.R_below HRD_11.out hb12)
    have HRK_12 := Aside0.mk (Kd.R_below HRK_11.out hb12)
    have HRDb_12 := Aside0.mk (Kd.R_below HRDb_11.out hb12)
    have HRKb_12 := Aside0.mk (Kd.R_below HRKb_11.out hb12)
    have Kg7_8_9_10_11_12 := Aside0.mk (blk_below Kg7_8_9_10_11.out hb12)
    clear hb12
    have Gg12 := Aside0.mk (show w.heap.size ≤ g12 by rw [hg12]; exact HB11.out.size)
    clear hg12 hk12
    simp only [Act.put, List.setIfInBounds_toArray, List.set_cons_zero, List.set_cons_succ]
    refine Cells.store_whole rfl rfl 56 _ _ rfl g12 [.int .i64 x.kind, .int .i64 x.cmd, .int .i64 x.zone, .int .i64 x.at_, .int .i64 x.n, .slice Adb x.data.length cdb, .bool x.fua, .int .i64 x.m, .int .i64 x.k, .slice Akb x.keep.length ckb] #[.int .i64 0, .int .i64 0, .int .i64 0, .int .i64 0, .int .i64 0, .slice none 0 0, .bool false, .int .i64 0, .int .i64 0, .slice none 0 0] rfl rfl Kg12.out rfl size56 rfl ?_
    intro W13 hk13 hf13 hb13
    have HRD_13 := Aside0.mk (R_far HRD_12.out Kg12.out (by decide) hf13)
    have HRK_13 := Aside0.mk (R_far HRK_12.out Kg12.out (by decide) hf13)
    have HRDb_13 := Aside0.mk (R_far HRDb_12.out Kg12.out (by decide) hf13)
    have HRKb_13 := Aside0.mk (R_far HRKb_12.out Kg12.out (by decide) hf13)
    have HB13 := Aside0.mk (HB12.out.trans (hb13 _ Gg12.out))
    have Kg7_8_9_10_11_12_13 := Aside0.mk ((hf13 _ Ng12_g7.out).trans Kg7_8_9_10_11_12.out)
    have Kg12_13 := Aside0.mk hk13
    clear hk13 hf13 hb13
    refine Flow.seqL (E := fun u v => Below u.heap.size u v) 7 1 [(some 21, []), (some 22, [0]), (some 20, [1]), (some 23, [2]), (some 24, [2]), (some 5, []), (none, [5, 3, 1, 0, 1, 2, 3, 5]), (some 6, [4, 6, 0, 1, 2, 3, 4, 5, 6])] (fun iQ vQ wQ => match iQ with | 7 => vQ = (.bool ok) | _ => True) rfl (by decide) (by kernel_rfl) (Below.refl _ _) (fun _ _ _ h k => h.trans (k.mono h.size)) (fun _ _ _ _ h _ => h) ?_ ?_
    · refine ⟨?_, trivial⟩
      · intro a w' hx hu hd K hK; have e24 : a.tmps.getD 24 undef = (.bool ok) := hu 24 rfl; exact Flow.run1 rfl (Flow.r_assign rfl e24) (hK _ _ (Below.refl _ _) rfl)
    intro vs W14 hb14 hT
    have v7 := Flow.eqn (hT 7 (by decide) (by decide))
    simp only [Flow.putsT, v7, Act.put, List.setIfInBounds_toArray, List.set_cons_zero, List.set_cons_succ, List.drop_succ_cons, List.drop_zero, List.take_succ_cons, List.take_zero]
    clear hT v7
    have HB14 := Aside0.mk (below_step HB13.out hb14)
    have HRD_14 := Aside0.mk (Kd.R_below HRD_13.out hb14)
    have HRK_14 := Aside0.mk (Kd.R_below HRK_13.out hb14)
    have HRDb_14 := Aside0.mk (Kd.R_below HRDb_13.out hb14)
    have HRKb_14 := Aside0.mk (Kd.R_below HRKb_13.out hb14)
    have Kg7_8_9_10_11_12_13_14 := Aside0.mk (blk_below Kg7_8_9_10_11_12_13.out hb14)
    have Kg12_13_14 := Aside0.mk (blk_below Kg12_13.out hb14)
    clear hb14
    go_upto_region 5 with fail
    refine Flow.seqT_head (E := fun u v => Below u.heap.size u v) 2 [(some 26, []), (some 27, [0]), (some 25, [1]), (some 28, [2]), (some 29, [2]), (some 7, [3, 1, 0, 1, 2, 3]), (some 8, [4, 5, 0, 1, 2, 3, 4, 5])] (fun iQ vQ wQ => match iQ with | 0 => vQ = (.string s) | 1 => LV r vQ wQ | _ => True) rfl (by decide) (by kernel_rfl) (Below.refl _ _) (fun _ _ _ h k => h.trans (k.mono h.size)) (fun iQ vQ w1Q w2Q hQ hEQ => match iQ, hQ with | 0, hQ => hQ | 1, hQ => hQ.below hEQ | _ + 2, _ => trivial) ?_ ?_
    · refine ⟨?_, ?_, trivial⟩
      · intro a w' hx hu hd K hK; have e0 : a.tmps.getD 0 undef = (.string s) := hu 0 rfl; exact Flow.run1 rfl (Flow.r_move rfl e0) (hK _ _ (Below.refl _ _) rfl)
      · intro a w' hx hu hd K hK; have e26 := Flow.got (hd 0 rfl) 26 rfl; refine Flow.want rfl ?_; refine Flow.val_call rfl Tryd.func30 (by kernel_rfl) rfl (by first | (simp only [List.map_toArray, List.map_cons, List.map_nil, Act.eval, e26]; done) | (simp only [List.map_toArray, List.map_cons, List.map_nil, Act.eval, e26]; rfl)) (lines_c s (by omega) w' m (pw_cell_below (below_step HB14.out hx) HM.out) r HRR) ?_; rintro e w2 ⟨v0, rfl, hR, hb2⟩; exact ⟨_, rfl, hK _ _ hb2 (LV.of hR)⟩
    intro vs W15 hb15 hT
    have v0 := Flow.eqn (hT 0 (by decide))
    obtain ⟨Al, cl, v1, hC⟩ : LV r _ _ := hT 1 (by decide)
    have HL := Aside0.mk hC
    clear hC
    simp only [Flow.putsT, v0, v1, Act.put, List.setIfInBounds_toArray, List.set_cons_zero, List.set_cons_succ, List.drop_succ_cons, List.drop_zero, List.take_succ_cons, List.take_zero]
    clear hT v0 v1
    have HB15 := Aside0.mk (below_step HB14.out hb15)
    have HRD_15 := Aside0.mk (Kd.R_below HRD_14.out hb15)
    have HRK_15 := Aside0.mk (Kd.R_below HRK_14.out hb15)
    have HRDb_15 := Aside0.mk (Kd.R_below HRDb_14.out hb15)
    have HRKb_15 := Aside0.mk (Kd.R_below HRKb_14.out hb15)
    have Kg7_8_9_10_11_12_13_14_15 := Aside0.mk (blk_below Kg7_8_9_10_11_12_13_14.out hb15)
    have Kg12_13_14_15 := Aside0.mk (blk_below Kg12_13_14.out hb15)
    clear hb15
    refine Flow.seqL (E := fun u v => Below u.heap.size u v) 2 5 [(some 26, []), (some 27, [0]), (some 25, [1]), (some 28, [2]), (some 29, [2]), (some 7, [3, 1, 0, 1, 2, 3]), (some 8, [4, 5, 0, 1, 2, 3, 4, 5])] (fun iQ vQ wQ => match iQ with | 2 => vQ = (.tuple #[.slice Al r.1.length cl, .int .i64 r.2]) | 3 => vQ = (.slice Al r.1.length cl) | 4 => vQ = (.int .i64 r.2) | 5 => vQ = (.slice Al r.1.length cl) | 6 => vQ = (.int .i64 r.2) | _ => True) rfl (by decide) (by kernel_rfl) (Below.refl _ _) (fun _ _ _ h k => h.trans (k.mono h.size)) (fun _ _ _ _ h _ => h) ?_ ?_
    · refine ⟨?_, ?_, ?_, ?_, ?_, trivial⟩
      · intro a w' hx hu hd K hK; have e27 : a.tmps.getD 27 undef = (.tuple #[.slice Al r.1.length cl, .int .i64 r.2]) := hu 27 rfl; exact Flow.run1 rfl (Flow.r_move rfl e27) (hK _ _ (Below.refl _ _) rfl)
      · intro a w' hx hu hd K hK; have e25 := Flow.got (hd 2 rfl) 25 rfl; exact Flow.run1 rfl (extr rfl e25 rfl) (hK _ _ (Below.refl _ _) rfl)
      · intro a w' hx hu hd K hK; have e25 := Flow.got (hd 2 rfl) 25 rfl; exact Flow.run1 rfl (extr rfl e25 rfl) (hK _ _ (Below.refl _ _) rfl)
      · intro a w' hx hu hd K hK; have e28 := Flow.got (hd 3 rfl) 28 rfl; exact Flow.run1 rfl (Flow.r_assign rfl e28) (hK _ _ (Below.refl _ _) rfl)
      · intro a w' hx hu hd K hK; have e29 := Flow.got (hd 4 rfl) 29 rfl; exact Flow.run1 rfl (Flow.r_assign rfl e29) (hK _ _ (Below.refl _ _) rfl)
    intro vs W16 hb16 hT
    have v2 := Flow.eqn (hT 2 (by decide) (by decide))
    have v3 := Flow.eqn (hT 3 (by decide) (by decide))
    have v4 := Flow.eqn (hT 4 (by decide) (by decide))
    have v5 := Flow.eqn (hT 5 (by decide) (by decide))
    have v6 := Flow.eqn (hT 6 (by decide) (by decide))
    simp only [Flow.putsT, v2, v3, v4, v5, v6, Act.put, List.setIfInBounds_toArray, List.set_cons_zero, List.set_cons_succ, List.drop_succ_cons, List.drop_zero, List.take_succ_cons, List.take_zero]
    clear hT v2 v3 v4 v5 v6
    have HB16 := Aside0.mk (below_step HB15.out hb16)
    have HRD_16 := Aside0.mk (Kd.R_below HRD_15.out hb16)
    have HRK_16 := Aside0.mk (Kd.R_below HRK_15.out hb16)
    have HRDb_16 := Aside0.mk (Kd.R_below HRDb_15.out hb16)
    have HRKb_16 := Aside0.mk (Kd.R_below HRKb_15.out hb16)
    have HL_16 := Aside0.mk (Kd.C_below HL.out hb16)
    have Kg7_8_9_10_11_12_13_14_15_16 := Aside0.mk (blk_below Kg7_8_9_10_11_12_13_14_15.out hb16)
    have Kg12_13_14_15_16 := Aside0.mk (blk_below Kg12_13_14_15.out hb16)
    clear hb16
    go_upto_region 6 with fail
    refine Flow.seqT_head (E := fun u v => Below u.heap.size u v) 2 [(some 31, []), (some 32, [0]), (some 30, [1]), (some 33, [2]), (some 34, [2]), (some 9, [3, 1, 0, 1, 2, 3]), (some 10, [4, 5, 0, 1, 2, 3, 4, 5])] (fun iQ vQ wQ => match iQ with | 0 => vQ = (.string s) | 1 => LV r vQ wQ | _ => True) rfl (by decide) (by kernel_rfl) (Below.refl _ _) (fun _ _ _ h k => h.trans (k.mono h.size)) (fun iQ vQ w1Q w2Q hQ hEQ => match iQ, hQ with | 0, hQ => hQ | 1, hQ => hQ.below hEQ | _ + 2, _ => trivial) ?_ ?_
    · refine ⟨?_, ?_, trivial⟩
      · intro a w' hx hu hd K hK; have e0 : a.tmps.getD 0 undef = (.string s) := hu 0 rfl; exact Flow.run1 rfl (Flow.r_move rfl e0) (hK _ _ (Below.refl _ _) rfl)
      · intro a w' hx hu hd K hK; have e31 := Flow.got (hd 0 rfl) 31 rfl; refine Flow.want rfl ?_; refine Flow.val_call rfl Tryd.func31 (by kernel_rfl) rfl (by first | (simp only [List.map_toArray, List.map_cons, List.map_nil, Act.eval, e31]; done) | (simp only [List.map_toArray, List.map_cons, List.map_nil, Act.eval, e31]; rfl)) (rlines_c s (by omega) w' r HRR) ?_; rintro e w2 ⟨v0, rfl, hR, hb2⟩; exact ⟨_, rfl, hK _ _ hb2 (LV.of hR)⟩
    intro vs W17 hb17 hT
    have v0 := Flow.eqn (hT 0 (by decide))
    obtain ⟨Alb, clb, v1, hCb⟩ : LV r _ _ := hT 1 (by decide)
    have HLb := Aside0.mk hCb
    clear hCb
    simp only [Flow.putsT, v0, v1, Act.put, List.setIfInBounds_toArray, List.set_cons_zero, List.set_cons_succ, List.drop_succ_cons, List.drop_zero, List.take_succ_cons, List.take_zero]
    clear hT v0 v1
    have HB17 := Aside0.mk (below_step HB16.out hb17)
    have HRD_17 := Aside0.mk (Kd.R_below HRD_16.out hb17)
    have HRK_17 := Aside0.mk (Kd.R_below HRK_16.out hb17)
    have HRDb_17 := Aside0.mk (Kd.R_below HRDb_16.out hb17)
    have HRKb_17 := Aside0.mk (Kd.R_below HRKb_16.out hb17)
    have HL_17 := Aside0.mk (Kd.C_below HL_16.out hb17)
    have Kg7_8_9_10_11_12_13_14_15_16_17 := Aside0.mk (blk_below Kg7_8_9_10_11_12_13_14_15_16.out hb17)
    have Kg12_13_14_15_16_17 := Aside0.mk (blk_below Kg12_13_14_15_16.out hb17)
    clear hb17
    refine Flow.seqL (E := fun u v => Below u.heap.size u v) 2 5 [(some 31, []), (some 32, [0]), (some 30, [1]), (some 33, [2]), (some 34, [2]), (some 9, [3, 1, 0, 1, 2, 3]), (some 10, [4, 5, 0, 1, 2, 3, 4, 5])] (fun iQ vQ wQ => match iQ with | 2 => vQ = (.tuple #[.slice Alb r.1.length clb, .int .i64 r.2]) | 3 => vQ = (.slice Alb r.1.length clb) | 4 => vQ = (.int .i64 r.2) | 5 => vQ = (.slice Alb r.1.length clb) | 6 => vQ = (.int .i64 r.2) | _ => True) rfl (by decide) (by kernel_rfl) (Below.refl _ _) (fun _ _ _ h k => h.trans (k.mono h.size)) (fun _ _ _ _ h _ => h) ?_ ?_
    · refine ⟨?_, ?_, ?_, ?_, ?_, trivial⟩
      · intro a w' hx hu hd K hK; have e32 : a.tmps.getD 32 undef = (.tuple #[.slice Alb r.1.length clb, .int .i64 r.2]) := hu 32 rfl; exact Flow.run1 rfl (Flow.r_move rfl e32) (hK _ _ (Below.refl _ _) rfl)
      · intro a w' hx hu hd K hK; have e30 := Flow.got (hd 2 rfl) 30 rfl; exact Flow.run1 rfl (extr rfl e30 rfl) (hK _ _ (Below.refl _ _) rfl)
      · intro a w' hx hu hd K hK; have e30 := Flow.got (hd 2 rfl) 30 rfl; exact Flow.run1 rfl (extr rfl e30 rfl) (hK _ _ (Below.refl _ _) rfl)
      · intro a w' hx hu hd K hK; have e33 := Flow.got (hd 3 rfl) 33 rfl; exact Flow.run1 rfl (Flow.r_assign rfl e33) (hK _ _ (Below.refl _ _) rfl)
      · intro a w' hx hu hd K hK; have e34 := Flow.got (hd 4 rfl) 34 rfl; exact Flow.run1 rfl (Flow.r_assign rfl e34) (hK _ _ (Below.refl _ _) rfl)
    intro vs W18 hb18 hT
    have v2 := Flow.eqn (hT 2 (by decide) (by decide))
    have v3 := Flow.eqn (hT 3 (by decide) (by decide))
    have v4 := Flow.eqn (hT 4 (by decide) (by decide))
    have v5 := Flow.eqn (hT 5 (by decide) (by decide))
    have v6 := Flow.eqn (hT 6 (by decide) (by decide))
    simp only [Flow.putsT, v2, v3, v4, v5, v6, Act.put, List.setIfInBounds_toArray, List.set_cons_zero, List.set_cons_succ, List.drop_succ_cons, List.drop_zero, List.take_succ_cons, List.take_zero]
    clear hT v2 v3 v4 v5 v6
    have HB18 := Aside0.mk (below_step HB17.out hb18)
    have HRD_18 := Aside0.mk (Kd.R_below HRD_17.out hb18)
    have HRK_18 := Aside0.mk (Kd.R_below HRK_17.out hb18)
    have HRDb_18 := Aside0.mk (Kd.R_below HRDb_17.out hb18)
    have HRKb_18 := Aside0.mk (Kd.R_below HRKb_17.out hb18)
    have HL_18 := Aside0.mk (Kd.C_below HL_17.out hb18)
    have HLb_18 := Aside0.mk (Kd.C_below HLb.out hb18)
    have Kg7_8_9_10_11_12_13_14_15_16_17_18 := Aside0.mk (blk_below Kg7_8_9_10_11_12_13_14_15_16_17.out hb18)
    have Kg12_13_14_15_16_17_18 := Aside0.mk (blk_below Kg12_13_14_15_16_17.out hb18)
    clear hb18
    have HCD := Aside0.mk (Kd.R_reads' HRD_18.out).2.2
    have HCK := Aside0.mk (Kd.R_reads' HRK_18.out).2.2
    have HCDb := Aside0.mk (Kd.R_reads' HRDb_18.out).2.2
    have HCKb := Aside0.mk (Kd.R_reads' HRKb_18.out).2.2
    go_upto_region 7 with fail
    refine Flow.seqT (E := fun u v => Below u.heap.size u v) [(some 35, []), (some 36, []), (some 37, [0, 1]), (some 38, [2, 2]), (some 39, [3]), (some 40, [3]), (some 41, [4, 5, 3]), (some 42, [3, 6]), (some 43, [7, 3]), (some 44, [8]), (some 45, [8]), (some 46, [9, 10, 8, 8]), (some 47, [8, 11]), (some 48, [12, 11]), (some 49, [13]), (some 50, [13]), (some 51, [14, 15, 13]), (some 52, [13, 16]), (some 53, [17, 13]), (some 54, [18, 18]), (some 55, [18, 19]), (some 2, [20, 19, 0, 1, 2, 3, 4, 5, 6, 7, 8, 9, 10, 11, 12, 13, 14, 15, 16, 17, 18, 19, 20])] (fun iQ vQ wQ => match iQ with | 0 => vQ = (.agg #[.int .i64 x.kind, .int .i64 x.cmd, .int .i64 x.zone, .int .i64 x.at_, .int .i64 x.n, .slice Ad x.data.length cd, .bool x.fua, .int .i64 x.m, .int .i64 x.k, .slice Ak x.keep.length ck]) | 1 => vQ = (.agg #[.int .i64 x.kind, .int .i64 x.cmd, .int .i64 x.zone, .int .i64 x.at_, .int .i64 x.n, .slice Adb x.data.length cdb, .bool x.fua, .int .i64 x.m, .int .i64 x.k, .slice Akb x.keep.length ckb]) | 2 => vQ = (.bool true) | 3 => vQ = (.bool true) | 4 => vQ = (.bool ok) | 5 => vQ = (.bool ok) | 6 => vQ = (.bool true) | 7 => vQ = (.bool true) | 8 => vQ = (.bool true) | 9 => vQ = (.slice Al r.1.length cl) | 10 => vQ = (.slice Alb r.1.length clb) | 11 => vQ = (.bool true) | 12 => vQ = (.bool true) | 13 => vQ = (.bool true) | 14 => vQ = (.int .i64 r.2) | 15 => vQ = (.int .i64 r.2) | 16 => vQ = (.bool true) | 17 => vQ = (.bool true) | 18 => vQ = (.bool true) | 19 => vQ = (.bool true) | 20 => vQ = (.bool true) | 21 => vQ = (.bool true) | _ => True) rfl (by kernel_rfl) (Below.refl _ _) (fun _ _ _ h k => h.trans (k.mono h.size)) (fun _ _ _ _ h _ => h) ?_ ?_
    · refine ⟨?_, ?_, ?_, ?_, ?_, ?_, ?_, ?_, ?_, ?_, ?_, ?_, ?_, ?_, ?_, ?_, ?_, ?_, ?_, ?_, ?_, ?_, trivial⟩
      · intro a w' hx hu hd K hK; have e3 : a.tmps.getD 3 undef = (.pointer (some ⟨g7, 0, none⟩)) := hu 3 rfl; exact Flow.run1 rfl (ldrow rfl e3 (lies_block (blk_below Kg7_8_9_10_11_12_13_14_15_16_17_18.out hx)) Tryd.underlying56 rfl size56) (hK _ _ (Below.refl _ _) rfl)
      · intro a w' hx hu hd K hK; have e5 : a.tmps.getD 5 undef = (.pointer (some ⟨g12, 0, none⟩)) := hu 5 rfl; exact Flow.run1 rfl (ldrow rfl e5 (lies_block (blk_below Kg12_13_14_15_16_17_18.out hx)) Tryd.underlying56 rfl size56) (hK _ _ (Below.refl _ _) rfl)
      · intro a w' hx hu hd K hK; have e35 := Flow.got (hd 0 rfl) 35 rfl; have e36 := Flow.got (hd 1 rfl) 36 rfl; refine Flow.want rfl ?_; refine Flow.val_call rfl Tryd.func32 (by kernel_rfl) rfl (by first | (simp only [List.map_toArray, List.map_cons, List.map_nil, Act.eval, e35, e36]; done) | (simp only [List.map_toArray, List.map_cons, List.map_nil, Act.eval, e35, e36]; rfl)) (same_c x Ad Ak Adb Akb cd ck cdb ckb w' (Kd.C_below HCD.out hx) (Kd.C_below HCK.out hx) (Kd.C_below HCDb.out hx) (Kd.C_below HCKb.out hx)) ?_; rintro e w2 ⟨rfl, hb2⟩; exact ⟨_, rfl, hK _ _ hb2 (by rfl)⟩
      · intro a w' hx hu hd K hK; have e37 := Flow.got (hd 2 rfl) 37 rfl; exact Flow.run1 rfl (Flow.r_move rfl e37) (hK _ _ (Below.refl _ _) rfl)
      · intro a w' hx hu hd K hK; have e4 : a.tmps.getD 4 undef = (.bool ok) := hu 4 rfl; have e38 := Flow.got (hd 3 rfl) 38 rfl; exact Flow.run1 (Flow.want_of (k := 38) rfl e38) (Flow.r_move rfl e4) (hK _ _ (Below.refl _ _) rfl)
      · intro a w' hx hu hd K hK; have e6 : a.tmps.getD 6 undef = (.bool ok) := hu 6 rfl; have e38 := Flow.got (hd 3 rfl) 38 rfl; exact Flow.run1 (Flow.want_of (k := 38) rfl e38) (Flow.r_move rfl e6) (hK _ _ (Below.refl _ _) rfl)
      · intro a w' hx hu hd K hK; have e39 := Flow.got (hd 4 rfl) 39 rfl; have e40 := Flow.got (hd 5 rfl) 40 rfl; have e38 := Flow.got (hd 3 rfl) 38 rfl; exact Flow.run1 (Flow.want_of (k := 38) rfl e38) (is (beqb Tryd.underlying4 rfl e39 e40) (beq_self_eq_true _)) (hK _ _ (Below.refl _ _) rfl)
      · intro a w' hx hu hd K hK; have e38 := Flow.got (hd 3 rfl) 38 rfl; have e41 := Flow.got (hd 6 rfl) 41 rfl; exact Flow.run1 rfl (Flow.r_pick rfl e38 e41) (hK _ _ (Below.refl _ _) rfl)
      · intro a w' hx hu hd K hK; have e42 := Flow.got (hd 7 rfl) 42 rfl; exact Flow.run1 rfl (Flow.r_move rfl e42) (hK _ _ (Below.refl _ _) rfl)
      · intro a w' hx hu hd K hK; have e7 : a.tmps.getD 7 undef = (.slice Al r.1.length cl) := hu 7 rfl; have e43 := Flow.got (hd 8 rfl) 43 rfl; exact Flow.run1 (Flow.want_of (k := 43) rfl e43) (Flow.r_move rfl e7) (hK _ _ (Below.refl _ _) rfl)
      · intro a w' hx hu hd K hK; have e9 : a.tmps.getD 9 undef = (.slice Alb r.1.length clb) := hu 9 rfl; have e43 := Flow.got (hd 8 rfl) 43 rfl; exact Flow.run1 (Flow.want_of (k := 43) rfl e43) (Flow.r_move rfl e9) (hK _ _ (Below.refl _ _) rfl)
      · intro a w' hx hu hd K hK; have e44 := Flow.got (hd 9 rfl) 44 rfl; have e45 := Flow.got (hd 10 rfl) 45 rfl; have e43 := Flow.got (hd 8 rfl) 43 rfl; refine Flow.want (Flow.want_of (k := 43) rfl e43) ?_; refine Flow.val_call rfl Tryd.func33 (by kernel_rfl) rfl (by first | (simp only [List.map_toArray, List.map_cons, List.map_nil, Act.eval, e44, e45]; done) | (simp only [List.map_toArray, List.map_cons, List.map_nil, Act.eval, e44, e45]; rfl)) (sameall_c r.1 Al Alb r.1.length cl clb rfl hrl w' (Kd.C_below HL_18.out hx) (Kd.C_below HLb_18.out hx)) ?_; rintro e w2 ⟨rfl, hb2⟩; exact ⟨_, rfl, hK _ _ hb2 (by rfl)⟩
      · intro a w' hx hu hd K hK; have e43 := Flow.got (hd 8 rfl) 43 rfl; have e46 := Flow.got (hd 11 rfl) 46 rfl; exact Flow.run1 rfl (Flow.r_pick rfl e43 e46) (hK _ _ (Below.refl _ _) rfl)
      · intro a w' hx hu hd K hK; have e47 := Flow.got (hd 12 rfl) 47 rfl; exact Flow.run1 rfl (Flow.r_move rfl e47) (hK _ _ (Below.refl _ _) rfl)
      · intro a w' hx hu hd K hK; have e8 : a.tmps.getD 8 undef = (.int .i64 r.2) := hu 8 rfl; have e48 := Flow.got (hd 13 rfl) 48 rfl; exact Flow.run1 (Flow.want_of (k := 48) rfl e48) (Flow.r_move rfl e8) (hK _ _ (Below.refl _ _) rfl)
      · intro a w' hx hu hd K hK; have e10 : a.tmps.getD 10 undef = (.int .i64 r.2) := hu 10 rfl; have e48 := Flow.got (hd 13 rfl) 48 rfl; exact Flow.run1 (Flow.want_of (k := 48) rfl e48) (Flow.r_move rfl e10) (hK _ _ (Below.refl _ _) rfl)
      · intro a w' hx hu hd K hK; have e49 := Flow.got (hd 14 rfl) 49 rfl; have e50 := Flow.got (hd 15 rfl) 50 rfl; have e48 := Flow.got (hd 13 rfl) 48 rfl; exact Flow.run1 (Flow.want_of (k := 48) rfl e48) (yes (eql rfl e49 e50) (beq_iff_eq.2 rfl)) (hK _ _ (Below.refl _ _) rfl)
      · intro a w' hx hu hd K hK; have e48 := Flow.got (hd 13 rfl) 48 rfl; have e51 := Flow.got (hd 16 rfl) 51 rfl; exact Flow.run1 rfl (Flow.r_pick rfl e48 e51) (hK _ _ (Below.refl _ _) rfl)
      · intro a w' hx hu hd K hK; have e52 := Flow.got (hd 17 rfl) 52 rfl; exact Flow.run1 rfl (Flow.r_move rfl e52) (hK _ _ (Below.refl _ _) rfl)
      · intro a w' hx hu hd K hK; have e53 := Flow.got (hd 18 rfl) 53 rfl; refine Flow.want (Flow.want_of (k := 53) rfl e53) ?_; refine Flow.val_call rfl Tryd.func27 (by kernel_rfl) rfl (by first | (simp only [List.map_toArray, List.map_cons, List.map_nil, Act.eval]; done) | (simp only [List.map_toArray, List.map_cons, List.map_nil, Act.eval]; rfl)) (live_c w') ?_; rintro e w2 ⟨rfl, hb2⟩; exact ⟨_, rfl, hK _ _ hb2 (by rfl)⟩
      · intro a w' hx hu hd K hK; have e53 := Flow.got (hd 18 rfl) 53 rfl; have e54 := Flow.got (hd 19 rfl) 54 rfl; exact Flow.run1 rfl (Flow.r_pick rfl e53 e54) (hK _ _ (Below.refl _ _) rfl)
      · intro a w' hx hu hd K hK; have e55 := Flow.got (hd 20 rfl) 55 rfl; exact Flow.run1 rfl (Flow.r_assign rfl e55) (hK _ _ (Below.refl _ _) rfl)
    intro vs W20 hb20 hT
    have v0 := Flow.eqn (hT 0 (by decide))
    have v1 := Flow.eqn (hT 1 (by decide))
    have v2 := Flow.eqn (hT 2 (by decide))
    have v3 := Flow.eqn (hT 3 (by decide))
    have v4 := Flow.eqn (hT 4 (by decide))
    have v5 := Flow.eqn (hT 5 (by decide))
    have v6 := Flow.eqn (hT 6 (by decide))
    have v7 := Flow.eqn (hT 7 (by decide))
    have v8 := Flow.eqn (hT 8 (by decide))
    have v9 := Flow.eqn (hT 9 (by decide))
    have v10 := Flow.eqn (hT 10 (by decide))
    have v11 := Flow.eqn (hT 11 (by decide))
    have v12 := Flow.eqn (hT 12 (by decide))
    have v13 := Flow.eqn (hT 13 (by decide))
    have v14 := Flow.eqn (hT 14 (by decide))
    have v15 := Flow.eqn (hT 15 (by decide))
    have v16 := Flow.eqn (hT 16 (by decide))
    have v17 := Flow.eqn (hT 17 (by decide))
    have v18 := Flow.eqn (hT 18 (by decide))
    have v19 := Flow.eqn (hT 19 (by decide))
    have v20 := Flow.eqn (hT 20 (by decide))
    have v21 := Flow.eqn (hT 21 (by decide))
    simp only [Flow.putsT, v0, v1, v2, v3, v4, v5, v6, v7, v8, v9, v10, v11, v12, v13, v14, v15, v16, v17, v18, v19, v20, v21, Act.put, List.setIfInBounds_toArray, List.set_cons_zero, List.set_cons_succ]
    clear hT v0 v1 v2 v3 v4 v5 v6 v7 v8 v9 v10 v11 v12 v13 v14 v15 v16 v17 v18 v19 v20 v21
    have HB20 := Aside0.mk hb20
    clear hb20
    go_wp2
    go_ret
    exact ⟨rfl, below_step HB18.out HB20.out⟩
end Go.Proofs.YtlhmpmmblnbmbaaDoor.Con
namespace Go.Proofs.YtlhmpmmblnbmbaaDoor.Wrap
open Go
theorem wrapped {H : Type} {enc : TypeId × Value → H} {C : Checked} {os : Os} {f : FuncId} {fn : Func} {s : ChangeSpec} {conds : List PathCond} {L : List (String × DataW Unit)}
    (hX : ∀ w w1 : World, w.heap = w1.heap → laidMetH C.prog L w → laidMetH C.prog L w1) (own : ownKnob C.prog.godebug = none) (started : os.Started) (noInit : C.prog.inits.idxOf? f = none) (hfn : C.prog.funcs[f]? = some fn)
    (wit : ∃ (w : World) (tape : Tape) (i : Input), w.os = os ∧ (w.forCall tape i).Shaped C.prog ∧ i.vars = [] ∧ Input.okWide C.prog (w.forCall tape i) .any w.heap.size f i ∧
      ((s.pre enc C.prog fn conds false (w.forCall tape i).memory i.args ∧ laidMetH C.prog L (w.forCall tape i).memory) ∧ sizedMet enc C.prog fn (OpenSpec.ofChange s) false (w.forCall tape i).memory i.args) ∧ ({} : Assume).holds C.prog (lone (Frame.enter C.prog f i.args .normal) [] (w.forCall tape i)))
    (con : ∀ (W : World) (base : Nat) (args : Array Value) (ds gs : List (DataW H)) (before : List MemPlace), (∀ (j : Nat) t v, fn.params[j]? = some t → args[j]? = some v → Value.okWide C.prog W .any base t v) → DataW.Whole enc C.prog fn.params.toList s.vars false W args.toList ds gs before →
      (DataW.weightsEach C.prog (fn.params.toList ++ s.plain.varTypes C.prog) (ds ++ gs)).all (· ≤ reachBytes) = true → laidMetH C.prog L W → W.ShapedOpen C.prog → Calls C.prog f args W fun e W' => ∃ v, e = .returned v ∧ s.post enc C.prog fn false true false false W args v W') :
    ReturnsInHanded {} C os f .any (fun w args => (s.pre enc C.prog fn conds false w args ∧ laidMetH C.prog L w) ∧ sizedMet enc C.prog fn (OpenSpec.ofChange s) false w args) (s.post enc C.prog fn false true false false) := by
  refine returnsInHanded_of_calls own started noInit wit fun w tape i _ hsh _ hok hpre _ => ?_
  obtain ⟨_, _, _, fn', hfn', _, _, _, _, hval⟩ := hok
  obtain rfl : fn' = fn := Option.some.inj (hfn'.symm.trans hfn)
  obtain ⟨⟨⟨ds, gs, before, hw, _⟩, hx⟩, hz⟩ := hpre
  refine (con (w.forCall tape i) w.heap.size i.args ds gs before hval (DataW.Whole.of_heap (w' := w.forCall tape i) (by rfl) hw) (hz.weights hw) (hX _ _ (by rfl) hx) hsh).mono fun e W' h => ?_
  obtain ⟨v, rfl, hp⟩ := h
  exact ChangeSpec.post_blind hp
end Go.Proofs.YtlhmpmmblnbmbaaDoor.Wrap
namespace Go.Proofs.YtlhmpmmblnbmbaaDoor.consoleParses
open Go.RowKit
open Go.Proofs.YtlhmpmmblnbmbaaDoor.PConsoleParses Go.Proofs.YtlhmpmmblnbmbaaDoorW.PrintWords Go.Proofs.YtlhmpmmblnbmbaaDoorW.PrintLast Go.Proofs.YtlhmpmmblnbmbaaDoorW.PrintMore Go.Proofs.YtlhmpmmblnbmbaaDoor.Open
set_option linter.unusedVariables false
open Go.Proofs.YtlhmpmmblnbmbaaDoor.Con Go.Lib
set_option maxRecDepth 100000
theorem o9 : Opens Tryd.prog 9 Kd.string (fun x => x.size ≤ maxLen) := opens_string Tryd.underlying9 (by kernel_rfl)
end Go.Proofs.YtlhmpmmblnbmbaaDoor.consoleParses
namespace Go.Proofs.YtlhmpmmblnbmbaaDoor.consoleParses
open Go.ChangeShapes Go.WideShapes Go.ChangeAt Go.RowKit
open Go.ChangeMaps (open_string shut_string)
open Go.Proofs.YtlhmpmmblnbmbaaDoor.PConsoleParses Go.Proofs.YtlhmpmmblnbmbaaDoorW.PrintWords Go.Proofs.YtlhmpmmblnbmbaaDoorW.PrintLast Go.Proofs.YtlhmpmmblnbmbaaDoorW.PrintMore Go.Proofs.YtlhmpmmblnbmbaaDoor.Open
set_option linter.unusedVariables false
open Go.Proofs.YtlhmpmmblnbmbaaDoor.Con Go.Lib
theorem own : ownKnob Tryd.prog.godebug = none := by kernel_rfl
theorem laid : laidOutB Tryd.prog = true := by kernel_rfl
theorem reads : (Tryd.f6.params.toList.all fun t => Tryd.prog.readableRec t && decide (t < Tryd.prog.types.size)) = true := by kernel_rfl
set_option maxRecDepth 100000 in
set_option maxHeartbeats 4000000 in
theorem lifted (os : Os) (started : os.Started) (H : Type) (enc : TypeId × Value → H) :
    ReturnsInHanded {} Tryd.checked os 6 .any (fun w args => (Rows.consoleParsesSpec.pre enc Tryd.prog Tryd.f6 Rows.consoleParsesRow.domain false w args ∧ laidMetH Tryd.prog Rows.consoleParsesRow.laid w) ∧ sizedMet enc Tryd.prog Tryd.f6 (OpenSpec.ofChange Rows.consoleParsesSpec) false w args) (Rows.consoleParsesSpec.post enc Tryd.prog Tryd.f6 false true false false) := by
  refine Wrap.wrapped (C := Tryd.checked) (L := Rows.consoleParsesRow.laid) (fun _ _ hh h => h.of_heap hh) own started (by kernel_rfl) Tryd.func6
    (ChangeSpec.witness_shaped (enc := enc) (C := Tryd.checked) (os := os) (X := fun w _ => laidMetH Tryd.prog Rows.consoleParsesRow.laid w) false (World.laidAll Tryd.prog os Rows.consoleParsesRow.laid) #[.string (ByteArray.empty)] 8 (World.laidAll_os _ _ _)
      (World.shaped_of_ZipB (by kernel_rfl) (by kernel_rfl)) (by kernel_rfl) (by kernel_rfl) (by kernel_rfl)
      (by rw [MakeChecks.laidMetH_plain _ _ _ (by kernel_rfl)]; exact laidMet_laidAll _ (by kernel_rfl) (by kernel_rfl))) ?_
  intro W base args ds gs before hval0 hW hsz0 hL hS
  have hsz : (DataW.weightsEach Tryd.prog (Tryd.f6.params.toList ++ Rows.consoleParsesSpec.plain.varTypes Tryd.prog) (ds ++ gs)).all (· ≤ reachBytes) = true := hsz0
  have hval : ∀ (j : Nat) t v, Tryd.f6.params[j]? = some t → args[j]? = some v → Value.okWide Tryd.prog W .any base t v := hval0
  have hW' := hW
  obtain ⟨p, q, hA0, hV, rfl, hfz, hnd⟩ := hW
  have hA : DataW.TrodAll enc Tryd.prog W 0 (fun _ => true) true Tryd.f6.params.toList args.toList ds p := hA0
  have hA2 := hA
  rw [Tryd.params6] at hA hval hsz
  obtain ⟨v0, vs0, d0, ds0, p0, q0, hargs, rfl, rfl, h0, r0⟩ := trodAll_cons hA
  obtain ⟨rfl, rfl, rfl⟩ := trodAll_nil r0
  obtain rfl : args = #[v0] := by cases args; simp_all
  obtain ⟨rfl, rfl⟩ := trodVars_none hV
  obtain ⟨a0, rfl, rfl, rfl, g00⟩ := open_string Tryd.underlying9 (hval 0 9 v0 rfl rfl) h0
  have g0 : a0.size ≤ 140737488351232 := by
    have := sized_string (j := 0) (t := 9) hsz rfl rfl; unfold reachBytes at this; simpa using this
  clear hA0 hval0 hsz0 hsz
  obtain ⟨m, hm⟩ := Tryd.laysM146.s1_3 W hS
  refine (lawparses_c a0 W m hm).mono fun e W' ⟨he, bel⟩ => ?_
  subst he
  exact ⟨_, rfl, _, _, _, [], _, [], hW', trodAll_mk1 (shut_bool Tryd.underlying4 _), args_stay laid reads hA2 bel, rfl, bel.frame _, fun h => by cases h⟩
theorem over : Rows.consoleParsesRow.holds Tryd.pinned (OpenSpec.ofChange Rows.consoleParsesSpec) :=
  OpenClaim.holds_of_wide 6 Tryd.f6 rfl rfl rfl rfl rfl rfl rfl ⟨rfl, rfl, rfl, rfl, rfl⟩ rfl rfl rfl rfl rfl (by kernel_rfl) Tryd.func6 (by kernel_rfl)
    (of_decide_eq_true (by kernel_rfl)) (by unfold Func.isWrapper; first | (rw [if_pos (by decide +kernel)]; kernel_rfl) | (rw [if_neg (by decide +kernel)]; exact ⟨rfl, rfl⟩))
    (fun os started H enc _ => lifted os started H enc)
theorem proved : Rows.ConsoleParsesSaid := over
/-- The tied card. -/
theorem card : Rows.ConsoleParsesCardSaid :=
  Claim7.holds_tied_plain_at .later [] [.data, .pinned] true (true, "9a8eeaf265d1964f626dea6041a18db30e6902f0d6d62871fe9f7aac8942600e") false
    proved (fun _ h => by cases h) (by kernel_rfl) (fun _ h => by cases h) consoleParses_row_tie rfl ⟨rfl, rfl⟩ (by kernel_rfl) rfl
    (fun f fn hf hfn => by
      obtain rfl : f = 6 := Option.some.inj ((show Tryd.prog.funcNamed "revetment/revetmentlaw37.ConsoleParses" = some 6 by kernel_rfl).symm.trans hf) |>.symm
      obtain rfl : fn = Tryd.f6 := (Option.some.inj (Tryd.func6.symm.trans hfn)).symm
      exact ⟨by kernel_rfl, fun j t ht => by
        rw [Tryd.params6] at ht
        have hm : t ∈ [9] := by simpa using Array.mem_of_getElem? ht
        have hall : ([9].all fun u => !Tryd.prog.wantsStandIn u) = true := by kernel_rfl
        exact (show Tryd.prog.wantsStandIn t = false by simpa using List.all_eq_true.1 hall t hm)⟩)
    (by kernel_rfl)
#print axioms card
end Go.Proofs.YtlhmpmmblnbmbaaDoor.consoleParses
namespace Go.Proofs.YtlhmpmmblnbmbaaDoor
/-- The row, under a short name, for the claim. -/
theorem consoleParses_holds : Rows.ConsoleParsesCardSaid := consoleParses.card
end Go.Proofs.YtlhmpmmblnbmbaaDoor
