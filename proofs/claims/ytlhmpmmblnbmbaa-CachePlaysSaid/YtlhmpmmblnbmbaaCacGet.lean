/- The document's Get: lines of the kit's print (its file that holds math/bits too does not build). -/
import Derived.Test.YtlhmpmmblnbmbaaPCachePlaysx0
import Derived.Test.YtlhmpmmblnbmbaaPCachePlaysx1
import Derived.Test.YtlhmpmmblnbmbaaCacRef
namespace Go.Proofs.Ytlhmpmmblnbmbaa.PCachePlays
open Go.RowKit Go.Proofs.YtlhmpmmblnbmbaaW.PrintWords Go.Proofs.YtlhmpmmblnbmbaaW.PrintLast Go.Proofs.YtlhmpmmblnbmbaaW.PrintMore
attribute [local go_sem] max2_int min2_int max_two min_two max_three min_three max_four min_four   -- for this text's walks alone
set_option linter.unusedVariables false
set_option linter.unusedSimpArgs false

attribute [local go_sem high] eqA36
/-! ### revetmentref35_Get: function 22 -/
def revetmentref35_Get.l0 : Nat → Int → List (S58) → Int → Int → Int → Int → Int → Int → Option ((List (S58)) × Int × Int × Int × ByteArray × Bool)
  | 0, _, _, _, _, _, _, _, _ => none
  | k + 1, x7, x112000, x112001, x112002, x112003, x113000, x113001, x113002 => if x7 < (x112000.length : Int) then (if 0 ≤ x7 then (if (((rd_T58 x112000 x7).f0.f0) == x113000 && (((rd_T58 x112000 x7).f0.f1) == x113001 && (((rd_T58 x112000 x7).f0.f2) == x113002))) = true then ((some (([(⟨(⟨(rd_T58 x112000 x7).f0.f0, (rd_T58 x112000 x7).f0.f1, (rd_T58 x112000 x7).f0.f2⟩ : S36), (rd_T58 x112000 x7).f1⟩ : S58)] : List (S58)) : List (S58))).bind fun y117 => ((revetmentref35_without.f k x112000 x113000 x113001 x113002).bind fun t120 => (if y117.length + t120.length < 3518437208883 then (some ((y117 ++ t120), x112001, wrap64 (x112002 + 1), x112003, (rd_T58 x112000 x7).f1, true)) else (none)))) else (revetmentref35_Get.l0 k (wrap64 (x7 + 1)) x112000 x112001 x112002 x112003 x113000 x113001 x113002)) else (none)) else (some (x112000, x112001, x112002, wrap64 (x112003 + 1), (⟨#[]⟩ : ByteArray), false))
def revetmentref35_Get.f (k : Nat) (l0_0 : List (S58)) (a0_1 : Int) (a0_2 : Int) (a0_3 : Int) (a1_0 : Int) (a1_1 : Int) (a1_2 : Int) : Option ((List (S58)) × Int × Int × Int × ByteArray × Bool) := revetmentref35_Get.l0 k 0 l0_0 a0_1 a0_2 a0_3 a1_0 a1_1 a1_2
theorem revetmentref35_Get.mono_l : ∀ k, (∀ y0 y1 y2 y3 y4 y5 y6 y7, LeO (revetmentref35_Get.l0 k y0 y1 y2 y3 y4 y5 y6 y7) (revetmentref35_Get.l0 (k + 1) y0 y1 y2 y3 y4 y5 y6 y7))
  | 0 => fun _ _ _ _ _ _ _ _ r h => by simp [revetmentref35_Get.l0] at h
  | k + 1 => by
    have ih0 := revetmentref35_Get.mono_l k
    · intro y0 y1 y2 y3 y4 y5 y6 y7
      unfold revetmentref35_Get.l0
      repeat' first
      | (with_reducible exact ih0 _ _ _ _ _ _ _ _)
      | (with_reducible exact revetmentref35_without.mono _ _ _ _ _)
      | (with_reducible exact LeO.refl _)
      | (with_reducible exact LeO.none _)
      | (with_reducible refine LeO.ite ?_ ?_)
      | (with_reducible refine LeO.bind ?_ (fun _ => ?_))
      | exact ih0 _ _ _ _ _ _ _ _
      | exact revetmentref35_without.mono _ _ _ _ _
      | exact LeO.none _
      | refine LeO.ite ?_ ?_
      | refine LeO.bind ?_ (fun _ => ?_)
theorem revetmentref35_Get.mono : ∀ a0 a1 a2 a3 a4 a5 a6 k, LeO (revetmentref35_Get.f k a0 a1 a2 a3 a4 a5 a6) (revetmentref35_Get.f (k + 1) a0 a1 a2 a3 a4 a5 a6) := by
  intro a0 a1 a2 a3 a4 a5 a6 k
  have ih0 := revetmentref35_Get.mono_l k
  unfold revetmentref35_Get.f
  repeat' first
      | (with_reducible exact ih0 _ _ _ _ _ _ _ _)
      | (with_reducible exact revetmentref35_without.mono _ _ _ _ _)
      | (with_reducible exact LeO.refl _)
      | (with_reducible exact LeO.none _)
      | (with_reducible refine LeO.ite ?_ ?_)
      | (with_reducible refine LeO.bind ?_ (fun _ => ?_))
      | exact ih0 _ _ _ _ _ _ _ _
      | exact revetmentref35_without.mono _ _ _ _ _
      | exact LeO.none _
      | refine LeO.ite ?_ ?_
      | refine LeO.bind ?_ (fun _ => ?_)
def revetmentref35_Get.T4 : Bool × List (List Nat × List Nat) := (true, [([], []), ([0], [0]), ([], []), ([1, 2], [1, 2]), ([3], [3]), ([4], [4]), ([], []), ([5, 6], [5, 6])])
def revetmentref35_Get.B4 : List Nat := [0, 1, 0, 7, 15, 31, 0, 127]
theorem revetmentref35_Get.tab4 : rtab .any (opsOf Try.f22 4) = revetmentref35_Get.T4 := by kernel_rfl
theorem revetmentref35_Get.bits4 : waitsOk revetmentref35_Get.T4.2 revetmentref35_Get.B4 = true := by kernel_rfl
def revetmentref35_Get.T6 : Bool × List (List Nat × List Nat) := (true, [([], []), ([0], [0]), ([], []), ([2], [2]), ([], []), ([3, 4], [3, 4]), ([1, 5, 5], [1, 5]), ([0, 1, 2, 3, 4, 5, 6], []), ([7, 6, 6, 0, 1, 2, 3, 4, 5, 6], [6, 7])])
def revetmentref35_Get.B6 : List Nat := [0, 1, 0, 4, 0, 28, 63, 127, 255]
theorem revetmentref35_Get.tab6 : rtab .any (opsOf Try.f22 6) = revetmentref35_Get.T6 := by kernel_rfl
theorem revetmentref35_Get.bits6 : waitsOk revetmentref35_Get.T6.2 revetmentref35_Get.B6 = true := by kernel_rfl
set_option maxHeartbeats 8000000 in
set_option maxRecDepth 100000 in
theorem revetmentref35_Get.calls (k : Nat) (P0_0_ : Nat → Prop) (A0_0 : Option Addr) (c0_0 : Nat) (l0_0 : List (S58)) (a0_1 : Int) (a0_2 : Int) (a0_3 : Int) (a1_0 : Int) (a1_1 : Int) (a1_2 : Int) (r1 : List (S58)) (r2 : Int) (r3 : Int) (r4 : Int) (r5 : ByteArray) (r6 : Bool) (w : World) (hs0_0 : Kd.V k58 58 w w.heap.size (fun k_ => P0_0_ k_) (.slice A0_0 l0_0.length c0_0) l0_0) (h : revetmentref35_Get.f k l0_0 a0_1 a0_2 a0_3 a1_0 a1_1 a1_2 = some (r1, r2, r3, r4, r5, r6)) :
    Calls Try.prog 22 #[.agg #[.slice A0_0 l0_0.length c0_0, .int .i64 a0_1, .int .i64 a0_2, .int .i64 a0_3], .agg #[.int .i64 a1_0, .int .i64 a1_1, .int .i64 a1_2]] w fun e w' => ∃ v0_ : Value, e = .returned (.tuple #[.agg #[v0_, .int .i64 r2, .int .i64 r3, .int .i64 r4], .string r5, .bool r6]) ∧ Kd.V k58 58 w' w.heap.size (fun k_ => (P0_0_ k_ ∨ w.heap.size ≤ k_)) v0_ r1 ∧ Below w.heap.size w w' := by
  have hu45 := Try.underlying45
  have hu36 := Try.underlying36
  have hu58 := Try.underlying58
  have HO0_0 := Aside0.mk (show Kd.V k58 58 w w.heap.size (fun k_ => (P0_0_ k_ ∨ w.heap.size ≤ k_)) (.slice A0_0 l0_0.length c0_0) l0_0 from Kd.V_mono hs0_0 (fun k_ hk => .inl hk))
  have HB := Aside0.mk (Below.refl w.heap.size w)
  have H : (revetmentref35_Get.l0 k 0 l0_0 a0_1 a0_2 a0_3 a1_0 a1_1 a1_2) = some (r1, r2, r3, r4, r5, r6) := h
  clear h
  have H' := Aside0.mk H
  clear H
  go_enter Try.func22, Try.ntmps22
  go_wp2_with (first | ((with_reducible refine gate_dst (N := 2) rfl ?_); refine box_event ?hg (N := 2) ?hd (cs := #[.slice A0_0 l0_0.length c0_0, .int .i64 a0_1, .int .i64 a0_2, .int .i64 a0_3]) (t := 45) ?hr ?_; (case hd => rfl); (case hg => rfl); (case hr => first | (go_simp; done) | (go_simp; rfl)); intro gb111 hg w3 hbox hb; have n0_ := Aside0.mk (Kd.V_below (Kd.V_elderB (by (with_reducible repeat (first | apply Kd.V_alloc | apply Kd.V_drewN | apply Kd.V_drew)); exact HO0_0.out) gb111 (Nat.le_of_eq hg.symm)) hb); have n1_ := Aside0.mk (below_step (by repeat (first | (with_reducible first | exact HB.out | apply below_alloc | apply pw_below_drewN | apply below_drew1) | exact HB.out)) hb); have n2_ := Aside0.mk (hbox); have n3_ := Aside0.mk ((by rw [hg]; exact (below_size (by repeat (first | (with_reducible first | exact HB.out | apply below_alloc | apply pw_below_drewN | apply below_drew1) | exact HB.out))) : w.heap.size ≤ gb111)); have n4_ := Aside0.mk ((by rw [hg]; exact (below_size (by repeat (first | (with_reducible first | exact HB.out | apply below_alloc | apply pw_below_drewN | apply below_drew1) | exact HB.out))) : w.heap.size ≤ gb111)); clear HO0_0; clear HB; have HO0_0 := n0_; have HB := n1_; have BK111 := n2_; have GW111 := n3_; have GE111 := n4_; clear n0_ n1_ n2_ n3_ n4_; clear hb hbox hg) | ((with_reducible refine gate_dst (N := 3) rfl ?_); refine box_event ?hg (N := 3) ?hd (cs := #[.int .i64 a1_0, .int .i64 a1_1, .int .i64 a1_2]) (t := 36) ?hr ?_; (case hd => rfl); (case hg => rfl); (case hr => first | (go_simp; done) | (go_simp; rfl)); intro gb112 hg w4 hbox hb; have n0_ := Aside0.mk (Kd.V_below (Kd.V_elderB (by (with_reducible repeat (first | apply Kd.V_alloc | apply Kd.V_drewN | apply Kd.V_drew)); exact HO0_0.out) gb112 (Nat.le_of_eq hg.symm)) hb); have n1_ := Aside0.mk (blk_below (g := gb111) (o := .cells #[.slice A0_0 l0_0.length c0_0, .int .i64 a0_1, .int .i64 a0_2, .int .i64 a0_3] 45 (0, 0)) (by (with_reducible repeat (first | refine blk_drewN ?_ _ | refine blk_drew ?_ | refine blk_alloc ?_ _)); exact BK111.out) hb); have n2_ := Aside0.mk (below_step (by repeat (first | (with_reducible first | exact HB.out | apply below_alloc | apply pw_below_drewN | apply below_drew1 | refine below_set ?_ GE111.out) | exact HB.out)) hb); have n3_ := Aside0.mk (hbox); have n4_ := Aside0.mk ((by rw [hg]; exact (below_size (by repeat (first | (with_reducible first | exact HB.out | apply below_alloc | apply pw_below_drewN | apply below_drew1 | refine below_set ?_ GE111.out) | exact HB.out))) : w.heap.size ≤ gb112)); have n5_ := Aside0.mk ((by rw [hg]; exact (below_size (by repeat (first | (with_reducible first | exact HB.out | apply below_alloc | apply pw_below_drewN | apply below_drew1 | refine below_set ?_ GE111.out) | exact HB.out))) : w.heap.size ≤ gb112)); have n6_ := Aside0.mk ((by rw [hg]; exact Nat.ne_of_lt (blk_lt (g := gb111) (o := .cells #[.slice A0_0 l0_0.length c0_0, .int .i64 a0_1, .int .i64 a0_2, .int .i64 a0_3] 45 (0, 0)) (by (with_reducible repeat (first | refine blk_drewN ?_ _ | refine blk_drew ?_ | refine blk_alloc ?_ _)); exact BK111.out)) : gb111 ≠ gb112)); have n7_ := Aside0.mk ((by rw [hg]; exact Nat.ne_of_gt (blk_lt (g := gb111) (o := .cells #[.slice A0_0 l0_0.length c0_0, .int .i64 a0_1, .int .i64 a0_2, .int .i64 a0_3] 45 (0, 0)) (by (with_reducible repeat (first | refine blk_drewN ?_ _ | refine blk_drew ?_ | refine blk_alloc ?_ _)); exact BK111.out)) : gb112 ≠ gb111)); clear HO0_0; clear BK111; clear HB; have HO0_0 := n0_; have BK111 := n1_; have HB := n2_; have BK112 := n3_; have GW112 := n4_; have GE112 := n5_; have NB111_112 := n6_; have NB112_111 := n7_; clear n0_ n1_ n2_ n3_ n4_ n5_ n6_ n7_; clear hb hbox hg) | ((with_reducible refine gate_dst (N := 4) rfl ?_); refine box_event ?hg (N := 4) ?hd (cs := #[.slice none 0 0, .int .i64 0, .int .i64 0, .int .i64 0]) (t := 45) ?hr ?_; (case hd => rfl); (case hg => rfl); (case hr => first | (go_simp; done) | (go_simp; rfl)); intro gb113 hg w5 hbox hb; have n0_ := Aside0.mk (Kd.V_below (Kd.V_elderB (by (with_reducible repeat (first | apply Kd.V_alloc | apply Kd.V_drewN | apply Kd.V_drew)); exact HO0_0.out) gb113 (Nat.le_of_eq hg.symm)) hb); have n1_ := Aside0.mk (blk_below (g := gb111) (o := .cells #[.slice A0_0 l0_0.length c0_0, .int .i64 a0_1, .int .i64 a0_2, .int .i64 a0_3] 45 (0, 0)) (by (with_reducible repeat (first | refine blk_drewN ?_ _ | refine blk_drew ?_ | refine blk_alloc ?_ _)); exact BK111.out) hb); have n2_ := Aside0.mk (blk_below (g := gb112) (o := .cells #[.int .i64 a1_0, .int .i64 a1_1, .int .i64 a1_2] 36 (0, 0)) (by (with_reducible repeat (first | refine blk_drewN ?_ _ | refine blk_drew ?_ | refine blk_alloc ?_ _)); exact BK112.out) hb); have n3_ := Aside0.mk (below_step (by repeat (first | (with_reducible first | exact HB.out | apply below_alloc | apply pw_below_drewN | apply below_drew1 | refine below_set ?_ GE111.out | refine below_set ?_ GE112.out) | exact HB.out)) hb); have n4_ := Aside0.mk (hbox); have n5_ := Aside0.mk ((by rw [hg]; exact (below_size (by repeat (first | (with_reducible first | exact HB.out | apply below_alloc | apply pw_below_drewN | apply below_drew1 | refine below_set ?_ GE111.out | refine below_set ?_ GE112.out) | exact HB.out))) : w.heap.size ≤ gb113)); have n6_ := Aside0.mk ((by rw [hg]; exact (below_size (by repeat (first | (with_reducible first | exact HB.out | apply below_alloc | apply pw_below_drewN | apply below_drew1 | refine below_set ?_ GE111.out | refine below_set ?_ GE112.out) | exact HB.out))) : w.heap.size ≤ gb113)); have n7_ := Aside0.mk ((by rw [hg]; exact Nat.ne_of_lt (blk_lt (g := gb111) (o := .cells #[.slice A0_0 l0_0.length c0_0, .int .i64 a0_1, .int .i64 a0_2, .int .i64 a0_3] 45 (0, 0)) (by (with_reducible repeat (first | refine blk_drewN ?_ _ | refine blk_drew ?_ | refine blk_alloc ?_ _)); exact BK111.out)) : gb111 ≠ gb113)); have n8_ := Aside0.mk ((by rw [hg]; exact Nat.ne_of_gt (blk_lt (g := gb111) (o := .cells #[.slice A0_0 l0_0.length c0_0, .int .i64 a0_1, .int .i64 a0_2, .int .i64 a0_3] 45 (0, 0)) (by (with_reducible repeat (first | refine blk_drewN ?_ _ | refine blk_drew ?_ | refine blk_alloc ?_ _)); exact BK111.out)) : gb113 ≠ gb111)); have n9_ := Aside0.mk ((by rw [hg]; exact Nat.ne_of_lt (blk_lt (g := gb112) (o := .cells #[.int .i64 a1_0, .int .i64 a1_1, .int .i64 a1_2] 36 (0, 0)) (by (with_reducible repeat (first | refine blk_drewN ?_ _ | refine blk_drew ?_ | refine blk_alloc ?_ _)); exact BK112.out)) : gb112 ≠ gb113)); have n10_ := Aside0.mk ((by rw [hg]; exact Nat.ne_of_gt (blk_lt (g := gb112) (o := .cells #[.int .i64 a1_0, .int .i64 a1_1, .int .i64 a1_2] 36 (0, 0)) (by (with_reducible repeat (first | refine blk_drewN ?_ _ | refine blk_drew ?_ | refine blk_alloc ?_ _)); exact BK112.out)) : gb113 ≠ gb112)); clear HO0_0; clear BK111; clear BK112; clear HB; have HO0_0 := n0_; have BK111 := n1_; have BK112 := n2_; have HB := n3_; have BK113 := n4_; have GW113 := n5_; have GE113 := n6_; have NB111_113 := n7_; have NB113_111 := n8_; have NB112_113 := n9_; have NB113_112 := n10_; clear n0_ n1_ n2_ n3_ n4_ n5_ n6_ n7_ n8_ n9_ n10_; clear hb hbox hg))
  go_loopg [7] k (fun kq v7 w' => ∃ (x7_1 : Int) (x112000_1 : List (S58)) (x112002_1 : Int) (x114001_1 : Int) (x114002_1 : Int) (x114003_1 : Int) (u112000 : Value), v7 = .int .i64 x7_1 ∧ Aside0 (revetmentref35_Get.l0 kq x7_1 x112000_1 a0_1 x112002_1 a0_3 a1_0 a1_1 a1_2 = some (r1, r2, r3, r4, r5, r6)) ∧ Aside0 (kq ≤ k) ∧ Aside0 (Kd.V k58 58 w' w.heap.size (fun k_ => (P0_0_ k_ ∨ w.heap.size ≤ k_) ∧ k_ ≠ gb111 ∧ k_ ≠ gb112 ∧ k_ ≠ gb113) u112000 x112000_1) ∧ Aside0 (w'.heap[gb111]? = some (.cells #[u112000, .int .i64 a0_1, .int .i64 x112002_1, .int .i64 a0_3] 45 (0, 0))) ∧ Aside0 (w'.heap[gb112]? = some (.cells #[.int .i64 a1_0, .int .i64 a1_1, .int .i64 a1_2] 36 (0, 0))) ∧ Aside0 (w'.heap[gb113]? = some (.cells #[(.slice none 0 0), .int .i64 x114001_1, .int .i64 x114002_1, .int .i64 x114003_1] 45 (0, 0))) ∧ Aside0 (Below w.heap.size w w'))
  case atStart => exact ⟨(0), (l0_0), (a0_2), (0), (0), (0), (.slice A0_0 l0_0.length c0_0), (by first | rfl | (simp; done) | (simp [*]; done)), H', ⟨Nat.le_refl _⟩, ⟨by (with_reducible repeat (first | apply Kd.V_alloc | apply Kd.V_drewN | apply Kd.V_drew)); exact Kd.V_mono HO0_0.out (fun _ hk => ⟨hk.1.1.1, ⟨hk.1.1.2, ⟨hk.1.2, hk.2⟩⟩⟩)⟩, ⟨by (with_reducible repeat (first | refine blk_drewN ?_ _ | refine blk_drew ?_ | refine blk_alloc ?_ _)); exact BK111.out⟩, ⟨by (with_reducible repeat (first | refine blk_drewN ?_ _ | refine blk_drew ?_ | refine blk_alloc ?_ _)); exact BK112.out⟩, ⟨by (with_reducible repeat (first | refine blk_drewN ?_ _ | refine blk_drew ?_ | refine blk_alloc ?_ _)); exact BK113.out⟩, ⟨by repeat (first | (with_reducible first | exact HB.out | apply below_alloc | apply pw_below_drewN | apply below_drew1 | refine below_set ?_ GE111.out | refine below_set ?_ GE112.out | refine below_set ?_ GE113.out) | exact HB.out)⟩⟩
  case round =>
    clear H'
    try clear c2
    try clear p2
    obtain ⟨x7_1, x112000_1, x112002_1, x114001_1, x114002_1, x114003_1, u112000, rfl, HA, HK1, HO_112000, BK111, BK112, BK113, HB⟩ := hrel
    cases gk with
    | zero => exact absurd HA.out (by simp [revetmentref35_Get.l0])
    | succ k1 =>
      have H := HA.out
      clear HA
      simp only [revetmentref35_Get.l0] at H
      by_cases c6 : x7_1 < (x112000_1.length : Int)
      · rw [if_pos c6] at H
        have c6b0 : decide (x7_1 < (x112000_1.length : Int)) = true := decide_eq_true c6
        clear c6
        by_cases c7 : 0 ≤ x7_1
        · rw [if_pos c7] at H
          have c7b0 : decide (0 ≤ x7_1) = true := decide_eq_true c7
          clear c7
          by_cases c8 : (((rd_T58 x112000_1 x7_1).f0.f0) == a1_0 && (((rd_T58 x112000_1 x7_1).f0.f1) == a1_1 && (((rd_T58 x112000_1 x7_1).f0.f2) == a1_2))) = true
          · rw [if_pos c8] at H
            have c8b0 : (((rd_T58 x112000_1 x7_1).f0.f0) == a1_0 && (((rd_T58 x112000_1 x7_1).f0.f1) == a1_1 && (((rd_T58 x112000_1 x7_1).f0.f2) == a1_2))) = true := c8
            (try (have c8b1 : decide (((rd_T58 x112000_1 x7_1).f0.f0) = a1_0 && (((rd_T58 x112000_1 x7_1).f0.f1) == a1_1 && (((rd_T58 x112000_1 x7_1).f0.f2) == a1_2))) = true := by simpa using c8))
            (try (have c8b2 : (((rd_T58 x112000_1 x7_1).f0.f0) == a1_0 && (((rd_T58 x112000_1 x7_1).f0.f1) == a1_1 && (((rd_T58 x112000_1 x7_1).f0.f2) == a1_2))) = true := by simpa using c8))
            clear c8
            obtain ⟨y117, hy117⟩ : ∃ y_ : List (S58), y_ = (([(⟨(⟨(rd_T58 x112000_1 x7_1).f0.f0, (rd_T58 x112000_1 x7_1).f0.f1, (rd_T58 x112000_1 x7_1).f0.f2⟩ : S36), (rd_T58 x112000_1 x7_1).f1⟩ : S58)] : List (S58))) := ⟨_, rfl⟩
            replace H : ((revetmentref35_without.f k1 x112000_1 a1_0 a1_1 a1_2).bind fun t120 => (if y117.length + t120.length < 3518437208883 then (some ((y117 ++ t120), a0_1, wrap64 (x112002_1 + 1), a0_3, (rd_T58 x112000_1 x7_1).f1, true)) else (none))) = some (r1, r2, r3, r4, r5, r6) := by first | (rw [hy117]; with_reducible exact H) | (have H2_ := (Option.bind_some _ _).symm.trans H; rw [hy117]; with_reducible exact H2_) | (have H2_ := (Option.bind_some _ _).symm.trans H; with_reducible exact H2_) | with_reducible exact H | (rw [hy117]; exact H) | exact H
            have Ny117 := Aside0.mk hy117
            clear hy117
            replace H := Option.bind_eq_some_iff.mp H
            obtain ⟨t120, A90, H⟩ := H
            replace H : (if y117.length + t120.length < 3518437208883 then (some ((y117 ++ t120), a0_1, wrap64 (x112002_1 + 1), a0_3, (rd_T58 x112000_1 x7_1).f1, true)) else (none)) = some (r1, r2, r3, r4, r5, r6) := H
            have A9 := Aside0.mk A90
            clear A90
            by_cases c10 : y117.length + t120.length < 3518437208883
            · rw [if_pos c10] at H
              have LMc10 := Aside0.mk c10
              clear c10
              obtain ⟨y123, hy123⟩ : ∃ y_ : List (S58), y_ = (y117 ++ t120) := ⟨_, rfl⟩
              replace H : (some (y123, a0_1, wrap64 (x112002_1 + 1), a0_3, (rd_T58 x112000_1 x7_1).f1, true)) = some (r1, r2, r3, r4, r5, r6) := by first | (rw [hy123]; with_reducible exact H) | (have H2_ := (Option.bind_some _ _).symm.trans H; rw [hy123]; with_reducible exact H2_) | (have H2_ := (Option.bind_some _ _).symm.trans H; with_reducible exact H2_) | with_reducible exact H | (rw [hy123]; exact H) | exact H
              have Ny123 := Aside0.mk hy123
              clear hy123
              simp only [Option.some.injEq, Prod.mk.injEq] at H
              obtain ⟨rfl, rfl, rfl, rfl, rfl, rfl⟩ := H
              have hnb11 := NB111_112.out
              have hnc11 := NB112_111.out
              have hnb12 := NB111_113.out
              have hnc12 := NB113_111.out
              have hcz13_0 : wr.cell? ⟨gb111, 0, none⟩ = some (u112000) := (blk_cell BK111.out 0).trans rfl
              have hcz13_1 : wr.cell? ⟨gb111, 1, none⟩ = some (.int .i64 a0_1) := (blk_cell BK111.out 1).trans rfl
              have hcz13_2 : wr.cell? ⟨gb111, 2, none⟩ = some (.int .i64 x112002_1) := (blk_cell BK111.out 2).trans rfl
              have hcz13_3 : wr.cell? ⟨gb111, 3, none⟩ = some (.int .i64 a0_3) := (blk_cell BK111.out 3).trans rfl
              have hfz13_0 := blk_frozen BK111.out 0
              have hfz13_1 := blk_frozen BK111.out 1
              have hfz13_2 := blk_frozen BK111.out 2
              have hfz13_3 := blk_frozen BK111.out 3
              obtain ⟨Ao14, co14, eo14⟩ := Kd.V_slice HO_112000.out
              subst eo14
              try go_wp2
              have n0_ := Aside0.mk (Kd.V_drew HO_112000.out)
              have n1_ := Aside0.mk (blk_drew BK111.out)
              have n2_ := Aside0.mk (blk_drew BK112.out)
              have n3_ := Aside0.mk (blk_drew BK113.out)
              have n4_ := Aside0.mk (below_drew1 HB.out)
              clear HO_112000
              clear BK111
              clear BK112
              clear BK113
              clear HB
              have HO_112000 := n0_
              have BK111 := n1_
              have BK112 := n2_
              have BK113 := n3_
              have HB := n4_
              clear n0_ n1_ n2_ n3_ n4_
              have p114 : 0 ≤ (x7_1 : Int) := of_decide_eq_true (by first | (with_reducible assumption) | assumption)
              have q114 : x7_1 < (x112000_1.length : Int) := of_decide_eq_true (by first | (with_reducible assumption) | assumption)
              obtain ⟨ad114, e114, hx114_0, hx114_1, hx114_2, hx114_3⟩ := at_T58 (Kd.V_reads' HO_112000.out).2.2 x7_1 p114 q114
              cases e114
              replace p114 := eq_true p114
              replace q114 := eq_true q114
              refine start_ (n := 8) (S := fun w' => w'.cell? ⟨gb111, 0, none⟩ = some (.slice (some ad114) x112000_1.length co14) ∧ w'.cell? ⟨gb111, 1, none⟩ = some (.int .i64 a0_1) ∧ w'.cell? ⟨gb111, 2, none⟩ = some (.int .i64 x112002_1) ∧ w'.cell? ⟨gb111, 3, none⟩ = some (.int .i64 a0_3) ∧ w'.cell? ⟨gb112, 0, none⟩ = some (.int .i64 a1_0) ∧ w'.cell? ⟨gb112, 1, none⟩ = some (.int .i64 a1_1) ∧ w'.cell? ⟨gb112, 2, none⟩ = some (.int .i64 a1_2) ∧ w'.cell? (ad114.add ((x7_1).toNat * 4)) = some (.int .i64 ((rd_T58 x112000_1 x7_1).f0.f0)) ∧ w'.cell? ⟨(ad114.add ((x7_1).toNat * 4)).block, (ad114.add ((x7_1).toNat * 4)).off + 1, none⟩ = some (.int .i64 ((rd_T58 x112000_1 x7_1).f0.f1)) ∧ w'.cell? ⟨(ad114.add ((x7_1).toNat * 4)).block, (ad114.add ((x7_1).toNat * 4)).off + 2, none⟩ = some (.int .i64 ((rd_T58 x112000_1 x7_1).f0.f2)) ∧ w'.cell? ⟨(ad114.add ((x7_1).toNat * 4)).block, (ad114.add ((x7_1).toNat * 4)).off + 3, none⟩ = some (.string ((rd_T58 x112000_1 x7_1).f1))) (ds := []) #[false, false, false, false, false, false, false, false] (by kernel_rfl) rfl rfl ⟨(blk_cell BK111.out 0).trans rfl, (blk_cell BK111.out 1).trans rfl, (blk_cell BK111.out 2).trans rfl, (blk_cell BK111.out 3).trans rfl, (blk_cell BK112.out 0).trans rfl, (blk_cell BK112.out 1).trans rfl, (blk_cell BK112.out 2).trans rfl, hx114_0, hx114_1, hx114_2, hx114_3⟩ (fun hHeld => ?_); refine with_tabW revetmentref35_Get.tab4 revetmentref35_Get.bits4 (fun HT_ HW_ => ?_)
              generalize wr.drew = w15 at HO_112000 BK111 BK112 BK113 HB hx114_0 hx114_1 hx114_2 hx114_3 hHeld ⊢
              refine pure_ (i := 0) (N := some 16) (v := ?_) (a' := ?_) #[true, false, false, false, false, false, false, false] rfl rfl (any_of HT_.out (by kernel_rfl)) (fun _ _ _ h => h) (Or.inl ⟨by rfl, ?_⟩) ?_ ?_
              rotate_left
              · intro w'
                go_simp
                with_reducible rfl
              rotate_left
              · simp only [Act.put, List.setIfInBounds_toArray, List.set_cons_zero, List.set_cons_succ, i64_w, i32_w]
                rfl
              refine pure_ (i := 2) (N := some 18) (v := ?_) (a' := ?_) #[true, false, true, false, false, false, false, false] rfl rfl (any_of HT_.out (by kernel_rfl)) (fun _ _ _ h => h) (Or.inl ⟨by rfl, ?_⟩) ?_ ?_
              rotate_left
              · intro w'
                go_simp
                with_reducible rfl
              rotate_left
              · simp only [Act.put, List.setIfInBounds_toArray, List.set_cons_zero, List.set_cons_succ, i64_w, i32_w]
                rfl
              refine take_ (i := 1) (N := some 17) (v := ?_) (a' := ?_) #[true, true, true, false, false, false, false, false] rfl rfl (take_ofW HT_.out HW_.out (by kernel_rfl)) (fun _ _ _ h => h) (Or.inl ⟨by rfl, ?_⟩) hHeld ?_ ?_
              rotate_left
              · rintro w' ⟨s0, s1, s2, s3, s4, s5, s6, s7, s8, s9, s10⟩
                go_simp
                with_reducible rfl
              rotate_left
              · simp only [Act.put, List.setIfInBounds_toArray, List.set_cons_zero, List.set_cons_succ, i64_w, i32_w]
                rfl
              refine pure_ (i := 3) (N := some 19) (v := ?_) (a' := ?_) #[true, true, true, true, false, false, false, false] rfl rfl (any_of HT_.out (by kernel_rfl)) (fun _ _ _ h => h) (Or.inl ⟨by rfl, ?_⟩) ?_ ?_
              rotate_left
              · intro w'
                go_simp
                with_reducible rfl
              rotate_left
              · simp only [Act.put, List.setIfInBounds_toArray, List.set_cons_zero, List.set_cons_succ, i64_w, i32_w]
                rfl
              refine pure_ (i := 4) (N := some 20) (v := ?_) (a' := ?_) #[true, true, true, true, true, false, false, false] rfl rfl (any_of HT_.out (by kernel_rfl)) (fun _ _ _ h => h) (Or.inl ⟨by rfl, ?_⟩) ?_ ?_
              rotate_left
              · intro w'
                go_simp
                with_reducible rfl
              rotate_left
              · simp only [Act.put, List.setIfInBounds_toArray, List.set_cons_zero, List.set_cons_succ, i64_w, i32_w]
                rfl
              refine take_ (i := 5) (N := some 21) (v := ?_) (a' := ?_) #[true, true, true, true, true, true, false, false] rfl rfl (take_ofW HT_.out HW_.out (by kernel_rfl)) (fun _ _ _ h => h) (Or.inl ⟨by rfl, ?_⟩) hHeld ?_ ?_
              rotate_left
              · rintro w' ⟨s0, s1, s2, s3, s4, s5, s6, s7, s8, s9, s10⟩
                go_simp
                with_reducible rfl
              rotate_left
              · simp only [Act.put, List.setIfInBounds_toArray, List.set_cons_zero, List.set_cons_succ, i64_w, i32_w]
                rfl
              refine take_ (i := 6) (N := some 22) (v := ?_) (a' := ?_) #[true, true, true, true, true, true, true, false] rfl rfl (take_ofW HT_.out HW_.out (by kernel_rfl)) (fun _ _ _ h => h) (Or.inl ⟨by rfl, ?_⟩) hHeld ?_ ?_
              rotate_left
              · rintro w' ⟨s0, s1, s2, s3, s4, s5, s6, s7, s8, s9, s10⟩
                go_simp
                with_reducible rfl
              rotate_left
              · simp only [Act.put, List.setIfInBounds_toArray, List.set_cons_zero, List.set_cons_succ, i64_w, i32_w]
                rfl
              refine pure_ (i := 7) (N := some 23) (v := ?_) (a' := ?_) #[true, true, true, true, true, true, true, true] rfl rfl (any_of HT_.out (by kernel_rfl)) (fun _ _ _ h => h) (Or.inl ⟨by rfl, ?_⟩) ?_ ?_
              rotate_left
              · intro w'
                go_simp
                with_reducible rfl
              rotate_left
              · simp only [Act.put, List.setIfInBounds_toArray, List.set_cons_zero, List.set_cons_succ, i64_w, i32_w]
                rfl
              refine done_ (done_of HT_.out (by kernel_rfl)) ?_
              have hcz16_0 : w15.cell? ⟨gb111, 0, none⟩ = some (.slice (some ad114) x112000_1.length co14) := (blk_cell BK111.out 0).trans rfl
              have hcz16_1 : w15.cell? ⟨gb111, 1, none⟩ = some (.int .i64 a0_1) := (blk_cell BK111.out 1).trans rfl
              have hcz16_2 : w15.cell? ⟨gb111, 2, none⟩ = some (.int .i64 x112002_1) := (blk_cell BK111.out 2).trans rfl
              have hcz16_3 : w15.cell? ⟨gb111, 3, none⟩ = some (.int .i64 a0_3) := (blk_cell BK111.out 3).trans rfl
              have hfz16_0 := blk_frozen BK111.out 0
              have hfz16_1 := blk_frozen BK111.out 1
              have hfz16_2 := blk_frozen BK111.out 2
              have hfz16_3 := blk_frozen BK111.out 3
              have p115 : 0 ≤ (x7_1 : Int) := of_decide_eq_true (by first | (with_reducible assumption) | assumption)
              have q115 : x7_1 < (x112000_1.length : Int) := of_decide_eq_true (by first | (with_reducible assumption) | assumption)
              obtain ⟨ad115, e115, hx115_0, hx115_1, hx115_2, hx115_3⟩ := at_T58 (Kd.V_reads' HO_112000.out).2.2 x7_1 p115 q115
              obtain rfl : ad114 = ad115 := (by injection e115)
              replace p115 := eq_true p115
              replace q115 := eq_true q115
              try go_wp2_with (first | ((with_reducible refine gate_dst (N := 8) rfl ?_); refine box_event ?hg (N := 8) ?hd (cs := #[.int .i64 0, .int .i64 0, .int .i64 0, .string (⟨#[]⟩ : ByteArray)]) (t := 58) ?hr ?_; (case hd => rfl); (case hg => rfl); (case hr => first | (go_simp; done) | (go_simp; rfl)); intro gb116 hg w17 hbox hb; have n0_ := Aside0.mk (Kd.V_below (Kd.V_elderB (by (with_reducible repeat (first | apply Kd.V_alloc | apply Kd.V_drewN | apply Kd.V_drew)); exact HO_112000.out) gb116 (Nat.le_of_eq hg.symm)) hb); have n1_ := Aside0.mk (blk_below (g := gb111) (o := .cells #[.slice (some ad114) x112000_1.length co14, .int .i64 a0_1, .int .i64 x112002_1, .int .i64 a0_3] 45 (0, 0)) (by (with_reducible repeat (first | refine blk_drewN ?_ _ | refine blk_drew ?_ | refine blk_alloc ?_ _)); exact BK111.out) hb); have n2_ := Aside0.mk (blk_below (g := gb112) (o := .cells #[.int .i64 a1_0, .int .i64 a1_1, .int .i64 a1_2] 36 (0, 0)) (by (with_reducible repeat (first | refine blk_drewN ?_ _ | refine blk_drew ?_ | refine blk_alloc ?_ _)); exact BK112.out) hb); have n3_ := Aside0.mk (blk_below (g := gb113) (o := .cells #[.slice none 0 0, .int .i64 x114001_1, .int .i64 x114002_1, .int .i64 x114003_1] 45 (0, 0)) (by (with_reducible repeat (first | refine blk_drewN ?_ _ | refine blk_drew ?_ | refine blk_alloc ?_ _)); exact BK113.out) hb); have n4_ := Aside0.mk (below_step (by repeat (first | (with_reducible first | exact HB.out | apply below_alloc | apply pw_below_drewN | apply below_drew1 | refine below_set ?_ GE111.out | refine below_set ?_ GE112.out | refine below_set ?_ GE113.out) | exact HB.out)) hb); have n5_ := Aside0.mk (hbox); have n6_ := Aside0.mk ((by rw [hg]; exact (below_size (by repeat (first | (with_reducible first | exact HB.out | apply below_alloc | apply pw_below_drewN | apply below_drew1 | refine below_set ?_ GE111.out | refine below_set ?_ GE112.out | refine below_set ?_ GE113.out) | exact HB.out))) : w.heap.size ≤ gb116)); have n7_ := Aside0.mk ((by rw [hg]; exact (below_size (by repeat (first | (with_reducible first | exact HB.out | apply below_alloc | apply pw_below_drewN | apply below_drew1 | refine below_set ?_ GE111.out | refine below_set ?_ GE112.out | refine below_set ?_ GE113.out) | exact HB.out))) : w.heap.size ≤ gb116)); have n8_ := Aside0.mk ((by rw [hg]; exact Nat.ne_of_lt (blk_lt (g := gb111) (o := .cells #[.slice (some ad114) x112000_1.length co14, .int .i64 a0_1, .int .i64 x112002_1, .int .i64 a0_3] 45 (0, 0)) (by (with_reducible repeat (first | refine blk_drewN ?_ _ | refine blk_drew ?_ | refine blk_alloc ?_ _)); exact BK111.out)) : gb111 ≠ gb116)); have n9_ := Aside0.mk ((by rw [hg]; exact Nat.ne_of_gt (blk_lt (g := gb111) (o := .cells #[.slice (some ad114) x112000_1.length co14, .int .i64 a0_1, .int .i64 x112002_1, .int .i64 a0_3] 45 (0, 0)) (by (with_reducible repeat (first | refine blk_drewN ?_ _ | refine blk_drew ?_ | refine blk_alloc ?_ _)); exact BK111.out)) : gb116 ≠ gb111)); have n10_ := Aside0.mk ((by rw [hg]; exact Nat.ne_of_lt (blk_lt (g := gb112) (o := .cells #[.int .i64 a1_0, .int .i64 a1_1, .int .i64 a1_2] 36 (0, 0)) (by (with_reducible repeat (first | refine blk_drewN ?_ _ | refine blk_drew ?_ | refine blk_alloc ?_ _)); exact BK112.out)) : gb112 ≠ gb116)); have n11_ := Aside0.mk ((by rw [hg]; exact Nat.ne_of_gt (blk_lt (g := gb112) (o := .cells #[.int .i64 a1_0, .int .i64 a1_1, .int .i64 a1_2] 36 (0, 0)) (by (with_reducible repeat (first | refine blk_drewN ?_ _ | refine blk_drew ?_ | refine blk_alloc ?_ _)); exact BK112.out)) : gb116 ≠ gb112)); have n12_ := Aside0.mk ((by rw [hg]; exact Nat.ne_of_lt (blk_lt (g := gb113) (o := .cells #[.slice none 0 0, .int .i64 x114001_1, .int .i64 x114002_1, .int .i64 x114003_1] 45 (0, 0)) (by (with_reducible repeat (first | refine blk_drewN ?_ _ | refine blk_drew ?_ | refine blk_alloc ?_ _)); exact BK113.out)) : gb113 ≠ gb116)); have n13_ := Aside0.mk ((by rw [hg]; exact Nat.ne_of_gt (blk_lt (g := gb113) (o := .cells #[.slice none 0 0, .int .i64 x114001_1, .int .i64 x114002_1, .int .i64 x114003_1] 45 (0, 0)) (by (with_reducible repeat (first | refine blk_drewN ?_ _ | refine blk_drew ?_ | refine blk_alloc ?_ _)); exact BK113.out)) : gb116 ≠ gb113)); clear HO_112000; clear BK111; clear BK112; clear BK113; clear HB; have HO_112000 := n0_; have BK111 := n1_; have BK112 := n2_; have BK113 := n3_; have HB := n4_; have BK116 := n5_; have GW116 := n6_; have GE116 := n7_; have NB111_116 := n8_; have NB116_111 := n9_; have NB112_116 := n10_; have NB116_112 := n11_; have NB113_116 := n12_; have NB116_113 := n13_; clear n0_ n1_ n2_ n3_ n4_ n5_ n6_ n7_ n8_ n9_ n10_ n11_ n12_ n13_; clear hb hbox hg; have hnb18 := NB116_111.out; have hnc18 := NB111_116.out; have hnb19 := NB116_112.out; have hnc19 := NB112_116.out; have hnb20 := NB116_113.out; have hnc20 := NB113_116.out; have hcz21_0 : w17.cell? ⟨gb116, 0, none⟩ = some (.int .i64 0) := (blk_cell BK116.out 0).trans rfl; have hcz21_1 : w17.cell? ⟨gb116, 1, none⟩ = some (.int .i64 0) := (blk_cell BK116.out 1).trans rfl; have hcz21_2 : w17.cell? ⟨gb116, 2, none⟩ = some (.int .i64 0) := (blk_cell BK116.out 2).trans rfl; have hcz21_3 : w17.cell? ⟨gb116, 3, none⟩ = some (.string (⟨#[]⟩ : ByteArray)) := (blk_cell BK116.out 3).trans rfl; have hfz21_0 := blk_frozen BK116.out 0; have hfz21_1 := blk_frozen BK116.out 1; have hfz21_2 := blk_frozen BK116.out 2; have hfz21_3 := blk_frozen BK116.out 3))
              have n0_ : Aside0 (Kd.V k58 58 ((((w17.setCell ⟨gb116, 0, none⟩ (.int .i64 ((rd_T58 x112000_1 x7_1).f0.f0))).setCell ⟨gb116, 1, none⟩ (.int .i64 ((rd_T58 x112000_1 x7_1).f0.f1))).setCell ⟨gb116, 2, none⟩ (.int .i64 ((rd_T58 x112000_1 x7_1).f0.f2))).setCell ⟨gb116, 3, none⟩ (.string ((rd_T58 x112000_1 x7_1).f1))) w.heap.size (fun k_ => (P0_0_ k_ ∨ w.heap.size ≤ k_) ∧ k_ ≠ gb111 ∧ k_ ≠ gb112 ∧ k_ ≠ gb113 ∧ k_ ≠ gb116) (.slice (some ad114) x112000_1.length co14) x112000_1) := ⟨by (with_reducible repeat (first | apply Kd.V_alloc | apply Kd.V_drewN | apply Kd.V_drew)); exact Kd.V_mono (Kd.V_far (p := ⟨gb116, 3, none⟩) (Kd.V_far (p := ⟨gb116, 2, none⟩) (Kd.V_far (p := ⟨gb116, 1, none⟩) (Kd.V_far (p := ⟨gb116, 0, none⟩) (Kd.V_mono HO_112000.out (fun k_ hk => (⟨hk, hk.2⟩ : _ ∧ k_ ≠ gb116))) (fun _ hk => hk.2) (.int .i64 ((rd_T58 x112000_1 x7_1).f0.f0))) (fun _ hk => hk.2) (.int .i64 ((rd_T58 x112000_1 x7_1).f0.f1))) (fun _ hk => hk.2) (.int .i64 ((rd_T58 x112000_1 x7_1).f0.f2))) (fun _ hk => hk.2) (.string ((rd_T58 x112000_1 x7_1).f1))) (fun _ hk => ⟨hk.1.1.1, ⟨hk.1.1.2.1, ⟨hk.1.1.2.2.1, ⟨hk.1.1.2.2.2, hk.1.2⟩⟩⟩⟩)⟩
              have n1_ : Aside0 (((((w17.setCell ⟨gb116, 0, none⟩ (.int .i64 ((rd_T58 x112000_1 x7_1).f0.f0))).setCell ⟨gb116, 1, none⟩ (.int .i64 ((rd_T58 x112000_1 x7_1).f0.f1))).setCell ⟨gb116, 2, none⟩ (.int .i64 ((rd_T58 x112000_1 x7_1).f0.f2))).setCell ⟨gb116, 3, none⟩ (.string ((rd_T58 x112000_1 x7_1).f1))).heap[gb111]? = some (.cells #[.slice (some ad114) x112000_1.length co14, .int .i64 a0_1, .int .i64 x112002_1, .int .i64 a0_3] 45 (0, 0))) := ⟨by (with_reducible repeat (first | refine blk_drewN ?_ _ | refine blk_drew ?_ | refine blk_alloc ?_ _)); refine blk_far ?_ NB111_116.out _; (with_reducible repeat (first | refine blk_drewN ?_ _ | refine blk_drew ?_ | refine blk_alloc ?_ _)); refine blk_far ?_ NB111_116.out _; (with_reducible repeat (first | refine blk_drewN ?_ _ | refine blk_drew ?_ | refine blk_alloc ?_ _)); refine blk_far ?_ NB111_116.out _; (with_reducible repeat (first | refine blk_drewN ?_ _ | refine blk_drew ?_ | refine blk_alloc ?_ _)); refine blk_far ?_ NB111_116.out _; (with_reducible repeat (first | refine blk_drewN ?_ _ | refine blk_drew ?_ | refine blk_alloc ?_ _)); exact BK111.out⟩
              have n2_ : Aside0 (((((w17.setCell ⟨gb116, 0, none⟩ (.int .i64 ((rd_T58 x112000_1 x7_1).f0.f0))).setCell ⟨gb116, 1, none⟩ (.int .i64 ((rd_T58 x112000_1 x7_1).f0.f1))).setCell ⟨gb116, 2, none⟩ (.int .i64 ((rd_T58 x112000_1 x7_1).f0.f2))).setCell ⟨gb116, 3, none⟩ (.string ((rd_T58 x112000_1 x7_1).f1))).heap[gb112]? = some (.cells #[.int .i64 a1_0, .int .i64 a1_1, .int .i64 a1_2] 36 (0, 0))) := ⟨by (with_reducible repeat (first | refine blk_drewN ?_ _ | refine blk_drew ?_ | refine blk_alloc ?_ _)); refine blk_far ?_ NB112_116.out _; (with_reducible repeat (first | refine blk_drewN ?_ _ | refine blk_drew ?_ | refine blk_alloc ?_ _)); refine blk_far ?_ NB112_116.out _; (with_reducible repeat (first | refine blk_drewN ?_ _ | refine blk_drew ?_ | refine blk_alloc ?_ _)); refine blk_far ?_ NB112_116.out _; (with_reducible repeat (first | refine blk_drewN ?_ _ | refine blk_drew ?_ | refine blk_alloc ?_ _)); refine blk_far ?_ NB112_116.out _; (with_reducible repeat (first | refine blk_drewN ?_ _ | refine blk_drew ?_ | refine blk_alloc ?_ _)); exact BK112.out⟩
              have n3_ : Aside0 (((((w17.setCell ⟨gb116, 0, none⟩ (.int .i64 ((rd_T58 x112000_1 x7_1).f0.f0))).setCell ⟨gb116, 1, none⟩ (.int .i64 ((rd_T58 x112000_1 x7_1).f0.f1))).setCell ⟨gb116, 2, none⟩ (.int .i64 ((rd_T58 x112000_1 x7_1).f0.f2))).setCell ⟨gb116, 3, none⟩ (.string ((rd_T58 x112000_1 x7_1).f1))).heap[gb113]? = some (.cells #[.slice none 0 0, .int .i64 x114001_1, .int .i64 x114002_1, .int .i64 x114003_1] 45 (0, 0))) := ⟨by (with_reducible repeat (first | refine blk_drewN ?_ _ | refine blk_drew ?_ | refine blk_alloc ?_ _)); refine blk_far ?_ NB113_116.out _; (with_reducible repeat (first | refine blk_drewN ?_ _ | refine blk_drew ?_ | refine blk_alloc ?_ _)); refine blk_far ?_ NB113_116.out _; (with_reducible repeat (first | refine blk_drewN ?_ _ | refine blk_drew ?_ | refine blk_alloc ?_ _)); refine blk_far ?_ NB113_116.out _; (with_reducible repeat (first | refine blk_drewN ?_ _ | refine blk_drew ?_ | refine blk_alloc ?_ _)); refine blk_far ?_ NB113_116.out _; (with_reducible repeat (first | refine blk_drewN ?_ _ | refine blk_drew ?_ | refine blk_alloc ?_ _)); exact BK113.out⟩
              have n4_ : Aside0 (((((w17.setCell ⟨gb116, 0, none⟩ (.int .i64 ((rd_T58 x112000_1 x7_1).f0.f0))).setCell ⟨gb116, 1, none⟩ (.int .i64 ((rd_T58 x112000_1 x7_1).f0.f1))).setCell ⟨gb116, 2, none⟩ (.int .i64 ((rd_T58 x112000_1 x7_1).f0.f2))).setCell ⟨gb116, 3, none⟩ (.string ((rd_T58 x112000_1 x7_1).f1))).heap[gb116]? = some (.cells #[.int .i64 ((rd_T58 x112000_1 x7_1).f0.f0), .int .i64 ((rd_T58 x112000_1 x7_1).f0.f1), .int .i64 ((rd_T58 x112000_1 x7_1).f0.f2), .string ((rd_T58 x112000_1 x7_1).f1)] 58 (0, 0))) := ⟨by (with_reducible repeat (first | refine blk_drewN ?_ _ | refine blk_drew ?_ | refine blk_alloc ?_ _)); refine blk_put (cs := #[.int .i64 ((rd_T58 x112000_1 x7_1).f0.f0), .int .i64 ((rd_T58 x112000_1 x7_1).f0.f1), .int .i64 ((rd_T58 x112000_1 x7_1).f0.f2), .string (⟨#[]⟩ : ByteArray)]) ?_ 3 _ rfl; (with_reducible repeat (first | refine blk_drewN ?_ _ | refine blk_drew ?_ | refine blk_alloc ?_ _)); refine blk_put (cs := #[.int .i64 ((rd_T58 x112000_1 x7_1).f0.f0), .int .i64 ((rd_T58 x112000_1 x7_1).f0.f1), .int .i64 0, .string (⟨#[]⟩ : ByteArray)]) ?_ 2 _ rfl; (with_reducible repeat (first | refine blk_drewN ?_ _ | refine blk_drew ?_ | refine blk_alloc ?_ _)); refine blk_put (cs := #[.int .i64 ((rd_T58 x112000_1 x7_1).f0.f0), .int .i64 0, .int .i64 0, .string (⟨#[]⟩ : ByteArray)]) ?_ 1 _ rfl; (with_reducible repeat (first | refine blk_drewN ?_ _ | refine blk_drew ?_ | refine blk_alloc ?_ _)); refine blk_put (cs := #[.int .i64 0, .int .i64 0, .int .i64 0, .string (⟨#[]⟩ : ByteArray)]) ?_ 0 _ rfl; (with_reducible repeat (first | refine blk_drewN ?_ _ | refine blk_drew ?_ | refine blk_alloc ?_ _)); exact BK116.out⟩
              have n5_ : Aside0 (Below w.heap.size w ((((w17.setCell ⟨gb116, 0, none⟩ (.int .i64 ((rd_T58 x112000_1 x7_1).f0.f0))).setCell ⟨gb116, 1, none⟩ (.int .i64 ((rd_T58 x112000_1 x7_1).f0.f1))).setCell ⟨gb116, 2, none⟩ (.int .i64 ((rd_T58 x112000_1 x7_1).f0.f2))).setCell ⟨gb116, 3, none⟩ (.string ((rd_T58 x112000_1 x7_1).f1)))) := ⟨by repeat (first | (with_reducible first | exact HB.out | apply below_alloc | apply pw_below_drewN | apply below_drew1 | refine below_set ?_ GE111.out | refine below_set ?_ GE112.out | refine below_set ?_ GE113.out | refine below_set ?_ GE116.out) | exact HB.out)⟩
              (try clear HO_112000)
              (try clear BK111)
              (try clear BK112)
              (try clear BK113)
              (try clear BK116)
              (try clear HB)
              generalize ((((w17.setCell ⟨gb116, 0, none⟩ (.int .i64 ((rd_T58 x112000_1 x7_1).f0.f0))).setCell ⟨gb116, 1, none⟩ (.int .i64 ((rd_T58 x112000_1 x7_1).f0.f1))).setCell ⟨gb116, 2, none⟩ (.int .i64 ((rd_T58 x112000_1 x7_1).f0.f2))).setCell ⟨gb116, 3, none⟩ (.string ((rd_T58 x112000_1 x7_1).f1))) = w22 at n0_ n1_ n2_ n3_ n4_ n5_ ⊢
              have HO_112000 := n0_
              have BK111 := n1_
              have BK112 := n2_
              have BK113 := n3_
              have BK116 := n4_
              have HB := n5_
              clear n0_ n1_ n2_ n3_ n4_ n5_
              have n0_ := Aside0.mk (Kd.V_drew HO_112000.out)
              have n1_ := Aside0.mk (blk_drew BK111.out)
              have n2_ := Aside0.mk (blk_drew BK112.out)
              have n3_ := Aside0.mk (blk_drew BK113.out)
              have n4_ := Aside0.mk (blk_drew BK116.out)
              have n5_ := Aside0.mk (below_drew1 HB.out)
              clear HO_112000
              clear BK111
              clear BK112
              clear BK113
              clear BK116
              clear HB
              have HO_112000 := n0_
              have BK111 := n1_
              have BK112 := n2_
              have BK113 := n3_
              have BK116 := n4_
              have HB := n5_
              clear n0_ n1_ n2_ n3_ n4_ n5_
              refine start_ (n := 9) (S := fun w' => w'.cell? ⟨gb116, 0, none⟩ = some (.int .i64 ((rd_T58 x112000_1 x7_1).f0.f0)) ∧ w'.cell? ⟨gb116, 1, none⟩ = some (.int .i64 ((rd_T58 x112000_1 x7_1).f0.f1)) ∧ w'.cell? ⟨gb116, 2, none⟩ = some (.int .i64 ((rd_T58 x112000_1 x7_1).f0.f2)) ∧ w'.cell? ⟨gb116, 3, none⟩ = some (.string ((rd_T58 x112000_1 x7_1).f1)) ∧ w'.cell? ⟨gb111, 0, none⟩ = some (.slice (some ad114) x112000_1.length co14) ∧ w'.cell? ⟨gb111, 1, none⟩ = some (.int .i64 a0_1) ∧ w'.cell? ⟨gb111, 2, none⟩ = some (.int .i64 x112002_1) ∧ w'.cell? ⟨gb111, 3, none⟩ = some (.int .i64 a0_3) ∧ w'.cell? ⟨gb112, 0, none⟩ = some (.int .i64 a1_0) ∧ w'.cell? ⟨gb112, 1, none⟩ = some (.int .i64 a1_1) ∧ w'.cell? ⟨gb112, 2, none⟩ = some (.int .i64 a1_2)) (ds := [8]) #[false, false, false, false, false, false, false, false, false] (by kernel_rfl) rfl rfl ⟨(blk_cell BK116.out 0).trans rfl, (blk_cell BK116.out 1).trans rfl, (blk_cell BK116.out 2).trans rfl, (blk_cell BK116.out 3).trans rfl, (blk_cell BK111.out 0).trans rfl, (blk_cell BK111.out 1).trans rfl, (blk_cell BK111.out 2).trans rfl, (blk_cell BK111.out 3).trans rfl, (blk_cell BK112.out 0).trans rfl, (blk_cell BK112.out 1).trans rfl, (blk_cell BK112.out 2).trans rfl⟩ (fun hHeld => ?_); refine with_tabW revetmentref35_Get.tab6 revetmentref35_Get.bits6 (fun HT_ HW_ => ?_)
              generalize w22.drew = w23 at HO_112000 BK111 BK112 BK113 BK116 HB hHeld ⊢
              refine pure_ (i := 2) (N := some 31) (v := ?_) (a' := ?_) #[false, false, true, false, false, false, false, false, false] rfl rfl (any_of HT_.out (by kernel_rfl)) (fun _ _ _ h => h) (Or.inl ⟨by rfl, ?_⟩) ?_ ?_
              rotate_left
              · intro w'
                go_simp
                with_reducible rfl
              rotate_left
              · simp only [Act.put, List.setIfInBounds_toArray, List.set_cons_zero, List.set_cons_succ, i64_w, i32_w]
                rfl
              refine take_ (i := 0) (N := some 29) (v := ?_) (a' := ?_) #[true, false, true, false, false, false, false, false, false] rfl rfl (take_ofW HT_.out HW_.out (by kernel_rfl)) (fun _ _ _ h => h) (Or.inl ⟨by rfl, ?_⟩) hHeld ?_ ?_
              rotate_left
              · rintro w' ⟨s0, s1, s2, s3, s4, s5, s6, s7, s8, s9, s10⟩
                go_simp
                with_reducible rfl
              rotate_left
              · simp only [Act.put, List.setIfInBounds_toArray, List.set_cons_zero, List.set_cons_succ, i64_w, i32_w]
                rfl
              refine take_ (i := 3) (N := some 32) (v := ?_) (a' := ?_) #[true, false, true, true, false, false, false, false, false] rfl rfl (take_ofW HT_.out HW_.out (by kernel_rfl)) (fun _ _ _ h => h) (Or.inl ⟨by rfl, ?_⟩) hHeld ?_ ?_
              rotate_left
              · rintro w' ⟨s0, s1, s2, s3, s4, s5, s6, s7, s8, s9, s10⟩
                go_simp
                with_reducible rfl
              rotate_left
              · simp only [Act.put, List.setIfInBounds_toArray, List.set_cons_zero, List.set_cons_succ, i64_w, i32_w]
                rfl
              refine take_ (i := 4) (N := some 33) (v := ?_) (a' := ?_) #[true, false, true, true, true, false, false, false, false] rfl rfl (take_ofW HT_.out HW_.out (by kernel_rfl)) (fun _ _ _ h => h) (Or.inl ⟨by rfl, ?_⟩) hHeld ?_ ?_
              rotate_left
              · rintro w' ⟨s0, s1, s2, s3, s4, s5, s6, s7, s8, s9, s10⟩
                go_simp
                with_reducible rfl
              rotate_left
              · simp only [Act.put, List.setIfInBounds_toArray, List.set_cons_zero, List.set_cons_succ, i64_w, i32_w]
                rfl
              refine join_ (σ := Value × Value) 3 #[true, true, true, true, true, true, false, false, false] (fun s_ => [(30, s_.1), (34, s_.2)]) (fun s_ w' => (w'.cell? ⟨gb116, 0, none⟩ = some (.int .i64 ((rd_T58 x112000_1 x7_1).f0.f0)) ∧ w'.cell? ⟨gb116, 1, none⟩ = some (.int .i64 ((rd_T58 x112000_1 x7_1).f0.f1)) ∧ w'.cell? ⟨gb116, 2, none⟩ = some (.int .i64 ((rd_T58 x112000_1 x7_1).f0.f2)) ∧ w'.cell? ⟨gb116, 3, none⟩ = some (.string ((rd_T58 x112000_1 x7_1).f1)) ∧ w'.cell? ⟨gb111, 0, none⟩ = some (.slice (some ad114) x112000_1.length co14) ∧ w'.cell? ⟨gb111, 1, none⟩ = some (.int .i64 a0_1) ∧ w'.cell? ⟨gb111, 2, none⟩ = some (.int .i64 x112002_1) ∧ w'.cell? ⟨gb111, 3, none⟩ = some (.int .i64 a0_3) ∧ w'.cell? ⟨gb112, 0, none⟩ = some (.int .i64 a1_0) ∧ w'.cell? ⟨gb112, 1, none⟩ = some (.int .i64 a1_1) ∧ w'.cell? ⟨gb112, 2, none⟩ = some (.int .i64 a1_2)) ∧ (Kd.R k58 58 w' w.heap.size (fun k_ => (w.heap.size ≤ k_) ∧ some k_ ≠ (s_.2 : Value).ownBlock ∧ k_ ≠ gb116) s_.1 y117) ∧ (Kd.R k58 58 w' w.heap.size (fun k_ => (w.heap.size ≤ k_) ∧ some k_ ≠ (s_.1 : Value).ownBlock ∧ k_ ≠ gb116) s_.2 t120) ∧ (Kd.V k58 58 w' w.heap.size (fun k_ => (P0_0_ k_ ∨ w.heap.size ≤ k_) ∧ some k_ ≠ (s_.1 : Value).ownBlock ∧ some k_ ≠ (s_.2 : Value).ownBlock ∧ k_ ≠ gb111 ∧ k_ ≠ gb112 ∧ k_ ≠ gb113 ∧ k_ ≠ gb116) (.slice (some ad114) x112000_1.length co14) x112000_1) ∧ (w'.heap[gb111]? = some (.cells #[.slice (some ad114) x112000_1.length co14, .int .i64 a0_1, .int .i64 x112002_1, .int .i64 a0_3] 45 (0, 0))) ∧ (w'.heap[gb112]? = some (.cells #[.int .i64 a1_0, .int .i64 a1_1, .int .i64 a1_2] 36 (0, 0))) ∧ (w'.heap[gb113]? = some (.cells #[.slice none 0 0, .int .i64 x114001_1, .int .i64 x114002_1, .int .i64 x114003_1] 45 (0, 0))) ∧ (w'.heap[gb116]? = some (.cells #[.int .i64 ((rd_T58 x112000_1 x7_1).f0.f0), .int .i64 ((rd_T58 x112000_1 x7_1).f0.f1), .int .i64 ((rd_T58 x112000_1 x7_1).f0.f2), .string ((rd_T58 x112000_1 x7_1).f1)] 58 (0, 0))) ∧ (Below w.heap.size w w')) ?_ ?_
              rotate_left
              · intro hCont
                refine two_ (i := 1) (j := 5) (Ni := some 30) (Nj := some 34) #[true, true, true, true, true, false, false, false, false] #[true, false, true, true, true, true, false, false, false] rfl rfl rfl rfl (two_of HT_.out (by kernel_rfl)) (by decide) (by decide) (fun K hK => ?_) (fun K hK => ?_)
                · skip
                  refine Kd.R_lit_step k58 _ 58 ?hg (N := 30) ?hd (xs := ([(⟨(⟨(rd_T58 x112000_1 x7_1).f0.f0, (rd_T58 x112000_1 x7_1).f0.f1, (rd_T58 x112000_1 x7_1).f0.f2⟩ : S36), (rd_T58 x112000_1 x7_1).f1⟩ : S58)] : List (S58))) (inner := [.int .i64 ((rd_T58 x112000_1 x7_1).f0.f0), .int .i64 ((rd_T58 x112000_1 x7_1).f0.f1), .int .i64 ((rd_T58 x112000_1 x7_1).f0.f2), .string ((rd_T58 x112000_1 x7_1).f1)]) (ok := fun _ => True) (okp := fun _ => True) ?hr ?hp (fun _ hk => hk) trivial (Below.refl _ _) (Nat.le_refl _) (by simp) ?_; (case hd => rfl); (case hg => rfl); (case hr => first | (go_simp; done) | (go_simp; rfl)); (case hp => exact (Reps.c4 (show Kd.M k58 _ _ _ (⟨(⟨(rd_T58 x112000_1 x7_1).f0.f0, (rd_T58 x112000_1 x7_1).f0.f1, (rd_T58 x112000_1 x7_1).f0.f2⟩ : S36), (rd_T58 x112000_1 x7_1).f1⟩ : S58) [.int .i64 ((rd_T58 x112000_1 x7_1).f0.f0), .int .i64 ((rd_T58 x112000_1 x7_1).f0.f1), .int .i64 ((rd_T58 x112000_1 x7_1).f0.f2), .string ((rd_T58 x112000_1 x7_1).f1)] from (k58_mkM _ _ _ (⟨(⟨(rd_T58 x112000_1 x7_1).f0.f0, (rd_T58 x112000_1 x7_1).f0.f1, (rd_T58 x112000_1 x7_1).f0.f2⟩ : S36), (rd_T58 x112000_1 x7_1).f1⟩ : S58) )) (Reps.none _ _)))
                  intro v118 w24 ho25 hb hg_ hnew_
                  clear hg_ hnew_
                  (first | rw [← Ny117.out] at ho25 | (simp only [Int.reduceToNat] at ho25; rw [← Ny117.out] at ho25))
                  have n0_ := Aside0.mk (Kd.V_elder' (by (with_reducible repeat (first | apply Kd.V_alloc | apply Kd.V_drewN | apply Kd.V_drew)); exact HO_112000.out) (Kd.R_base ho25) hb)
                  have n1_ := Aside0.mk (Kd.R_lower (Kd.R_newB (Kd.R_newM (M := fun k_ => (w.heap.size ≤ k_)) ho25 (below_size (by repeat (first | (with_reducible first | exact HB.out | apply below_alloc | apply pw_below_drewN | apply below_drew1 | refine below_set ?_ GE111.out | refine below_set ?_ GE112.out | refine below_set ?_ GE113.out | refine below_set ?_ GE116.out) | exact HB.out))) (fun k_ h_ => h_)) (g := gb116) (o := .cells #[.int .i64 ((rd_T58 x112000_1 x7_1).f0.f0), .int .i64 ((rd_T58 x112000_1 x7_1).f0.f1), .int .i64 ((rd_T58 x112000_1 x7_1).f0.f2), .string ((rd_T58 x112000_1 x7_1).f1)] 58 (0, 0)) (by (with_reducible repeat (first | refine blk_drewN ?_ _ | refine blk_drew ?_ | refine blk_alloc ?_ _)); exact BK116.out)) (below_size (by repeat (first | (with_reducible first | exact HB.out | apply below_alloc | apply pw_below_drewN | apply below_drew1 | refine below_set ?_ GE111.out | refine below_set ?_ GE112.out | refine below_set ?_ GE113.out | refine below_set ?_ GE116.out) | exact HB.out))))
                  have n2_ := Aside0.mk (blk_below (g := gb111) (o := .cells #[.slice (some ad114) x112000_1.length co14, .int .i64 a0_1, .int .i64 x112002_1, .int .i64 a0_3] 45 (0, 0)) (by (with_reducible repeat (first | refine blk_drewN ?_ _ | refine blk_drew ?_ | refine blk_alloc ?_ _)); exact BK111.out) hb)
                  have n3_ := Aside0.mk (blk_below (g := gb112) (o := .cells #[.int .i64 a1_0, .int .i64 a1_1, .int .i64 a1_2] 36 (0, 0)) (by (with_reducible repeat (first | refine blk_drewN ?_ _ | refine blk_drew ?_ | refine blk_alloc ?_ _)); exact BK112.out) hb)
                  have n4_ := Aside0.mk (blk_below (g := gb113) (o := .cells #[.slice none 0 0, .int .i64 x114001_1, .int .i64 x114002_1, .int .i64 x114003_1] 45 (0, 0)) (by (with_reducible repeat (first | refine blk_drewN ?_ _ | refine blk_drew ?_ | refine blk_alloc ?_ _)); exact BK113.out) hb)
                  have n5_ := Aside0.mk (blk_below (g := gb116) (o := .cells #[.int .i64 ((rd_T58 x112000_1 x7_1).f0.f0), .int .i64 ((rd_T58 x112000_1 x7_1).f0.f1), .int .i64 ((rd_T58 x112000_1 x7_1).f0.f2), .string ((rd_T58 x112000_1 x7_1).f1)] 58 (0, 0)) (by (with_reducible repeat (first | refine blk_drewN ?_ _ | refine blk_drew ?_ | refine blk_alloc ?_ _)); exact BK116.out) hb)
                  have n6_ := Aside0.mk (below_step (by repeat (first | (with_reducible first | exact HB.out | apply below_alloc | apply pw_below_drewN | apply below_drew1 | refine below_set ?_ GE111.out | refine below_set ?_ GE112.out | refine below_set ?_ GE113.out | refine below_set ?_ GE116.out) | exact HB.out)) hb)
                  clear HO_112000
                  clear BK111
                  clear BK112
                  clear BK113
                  clear BK116
                  clear HB
                  have HO_112000 := n0_
                  have HO119 := n1_
                  have BK111 := n2_
                  have BK112 := n3_
                  have BK113 := n4_
                  have BK116 := n5_
                  have HB := n6_
                  clear n0_ n1_ n2_ n3_ n4_ n5_ n6_
                  clear hb ho25
                  refine hK.out _ _ ⟨(blk_cell BK116.out 0).trans rfl, (blk_cell BK116.out 1).trans rfl, (blk_cell BK116.out 2).trans rfl, (blk_cell BK116.out 3).trans rfl, (blk_cell BK111.out 0).trans rfl, (blk_cell BK111.out 1).trans rfl, (blk_cell BK111.out 2).trans rfl, (blk_cell BK111.out 3).trans rfl, (blk_cell BK112.out 0).trans rfl, (blk_cell BK112.out 1).trans rfl, (blk_cell BK112.out 2).trans rfl⟩ (fun hHeld => ?_)
                  clear hK K
                  refine norm_ (a' := ?_) ?_ ?_
                  rotate_left
                  · show Act.put _ (some 30) _ = _
                    simp only [Act.put, List.setIfInBounds_toArray, List.set_cons_zero, List.set_cons_succ, i64_w, i32_w]
                    rfl
                  refine one_ (i := 5) (N := some 34) #[true, true, true, true, true, true, false, false, false] rfl rfl (one_of HT_.out (by kernel_rfl)) (by decide) (fun K hK => ?_)
                  refine goes_ Try.func40 (by kernel_rfl) rfl #[.slice (some ad114) x112000_1.length co14, .agg #[.int .i64 a1_0, .int .i64 a1_1, .int .i64 a1_2]] (by rfl) rfl rfl (by (try simp only [List.map_toArray, List.map_cons, List.map_nil]); first | done | rfl | (simp only [List.length_drop, List.length_take]; rfl)) ?_
                  with_reducible refine (revetmentref35_without.calls k1 _ _ x112000_1 a1_0 a1_1 a1_2 t120 _ ?side1 ?side2 A9.out).mono ?_
                  (case side1 => repeat (first | exact (Kd.V_reads' HO_112000.out).2.2 | (with_reducible refine Kd.C_alloc ?_ _) | (with_reducible refine Kd.C_drewN ?_ _) | (with_reducible refine Kd.C_drew ?_)))
                  (case side2 => exact (Kd.V_reads' HO_112000.out).2.1)
                  rintro e w26 ⟨v121, rfl, ho0, hb⟩
                  refine ⟨_, rfl, ?_⟩
                  have n0_ := Aside0.mk (Kd.V_elder' (by (with_reducible repeat (first | apply Kd.V_alloc | apply Kd.V_drewN | apply Kd.V_drew)); exact HO_112000.out) (Kd.R_base ho0) hb)
                  have n1_ := Aside0.mk (Kd.R_elder' (by (with_reducible repeat (first | apply Kd.R_alloc | apply Kd.R_drewN | apply Kd.R_drew)); exact HO119.out) (Kd.R_base ho0) hb)
                  have n2_ := Aside0.mk (Kd.R_lower (Kd.R_newB (Kd.R_new' (Kd.R_newM (M := fun k_ => (w.heap.size ≤ k_)) ho0 (below_size (by repeat (first | (with_reducible first | exact HB.out | apply below_alloc | apply pw_below_drewN | apply below_drew1 | refine below_set ?_ GE111.out | refine below_set ?_ GE112.out | refine below_set ?_ GE113.out | refine below_set ?_ GE116.out) | exact HB.out))) (fun k_ h_ => h_)) (Kd.R_lt (by (with_reducible repeat (first | apply Kd.R_alloc | apply Kd.R_drewN | apply Kd.R_drew)); exact HO119.out))) (g := gb116) (o := .cells #[.int .i64 ((rd_T58 x112000_1 x7_1).f0.f0), .int .i64 ((rd_T58 x112000_1 x7_1).f0.f1), .int .i64 ((rd_T58 x112000_1 x7_1).f0.f2), .string ((rd_T58 x112000_1 x7_1).f1)] 58 (0, 0)) (by (with_reducible repeat (first | refine blk_drewN ?_ _ | refine blk_drew ?_ | refine blk_alloc ?_ _)); exact BK116.out)) (below_size (by repeat (first | (with_reducible first | exact HB.out | apply below_alloc | apply pw_below_drewN | apply below_drew1 | refine below_set ?_ GE111.out | refine below_set ?_ GE112.out | refine below_set ?_ GE113.out | refine below_set ?_ GE116.out) | exact HB.out))))
                  have n3_ := Aside0.mk (blk_below (g := gb111) (o := .cells #[.slice (some ad114) x112000_1.length co14, .int .i64 a0_1, .int .i64 x112002_1, .int .i64 a0_3] 45 (0, 0)) (by (with_reducible repeat (first | refine blk_drewN ?_ _ | refine blk_drew ?_ | refine blk_alloc ?_ _)); exact BK111.out) hb)
                  have n4_ := Aside0.mk (blk_below (g := gb112) (o := .cells #[.int .i64 a1_0, .int .i64 a1_1, .int .i64 a1_2] 36 (0, 0)) (by (with_reducible repeat (first | refine blk_drewN ?_ _ | refine blk_drew ?_ | refine blk_alloc ?_ _)); exact BK112.out) hb)
                  have n5_ := Aside0.mk (blk_below (g := gb113) (o := .cells #[.slice none 0 0, .int .i64 x114001_1, .int .i64 x114002_1, .int .i64 x114003_1] 45 (0, 0)) (by (with_reducible repeat (first | refine blk_drewN ?_ _ | refine blk_drew ?_ | refine blk_alloc ?_ _)); exact BK113.out) hb)
                  have n6_ := Aside0.mk (blk_below (g := gb116) (o := .cells #[.int .i64 ((rd_T58 x112000_1 x7_1).f0.f0), .int .i64 ((rd_T58 x112000_1 x7_1).f0.f1), .int .i64 ((rd_T58 x112000_1 x7_1).f0.f2), .string ((rd_T58 x112000_1 x7_1).f1)] 58 (0, 0)) (by (with_reducible repeat (first | refine blk_drewN ?_ _ | refine blk_drew ?_ | refine blk_alloc ?_ _)); exact BK116.out) hb)
                  have n7_ := Aside0.mk (below_step (by repeat (first | (with_reducible first | exact HB.out | apply below_alloc | apply pw_below_drewN | apply below_drew1 | refine below_set ?_ GE111.out | refine below_set ?_ GE112.out | refine below_set ?_ GE113.out | refine below_set ?_ GE116.out) | exact HB.out)) hb)
                  clear HO_112000
                  clear HO119
                  clear BK111
                  clear BK112
                  clear BK113
                  clear BK116
                  clear HB
                  have HO_112000 := n0_
                  have HO119 := n1_
                  have HO122 := n2_
                  have BK111 := n3_
                  have BK112 := n4_
                  have BK113 := n5_
                  have BK116 := n6_
                  have HB := n7_
                  clear n0_ n1_ n2_ n3_ n4_ n5_ n6_ n7_
                  (try clear hb)
                  (try clear hb2)
                  (try clear hk)
                  (try clear hi)
                  (try clear ho0)
                  refine hK.out _ _ ⟨(blk_cell BK116.out 0).trans rfl, (blk_cell BK116.out 1).trans rfl, (blk_cell BK116.out 2).trans rfl, (blk_cell BK116.out 3).trans rfl, (blk_cell BK111.out 0).trans rfl, (blk_cell BK111.out 1).trans rfl, (blk_cell BK111.out 2).trans rfl, (blk_cell BK111.out 3).trans rfl, (blk_cell BK112.out 0).trans rfl, (blk_cell BK112.out 1).trans rfl, (blk_cell BK112.out 2).trans rfl⟩ (fun hHeld => ?_)
                  clear hK K
                  refine norm_ (a' := ?_) ?_ ?_
                  rotate_left
                  · show Act.put _ (some 34) _ = _
                    simp only [Act.put, List.setIfInBounds_toArray, List.set_cons_zero, List.set_cons_succ, i64_w, i32_w]
                    rfl
                  exact norm_ (by simp only [putAll, Act.put, List.setIfInBounds_toArray, List.set_cons_zero, List.set_cons_succ]) (hCont (v118, v121) _ ⟨hHeld, (by (with_reducible repeat (first | apply Kd.R_alloc | apply Kd.R_drewN | apply Kd.R_drew)); exact Kd.R_mono HO119.out (fun _ hk => ⟨hk.1.1.1, ⟨hk.2, hk.1.2⟩⟩)), (by (with_reducible repeat (first | apply Kd.R_alloc | apply Kd.R_drewN | apply Kd.R_drew)); exact Kd.R_mono HO122.out (fun _ hk => ⟨hk.1.1.1, ⟨hk.1.2, hk.2⟩⟩)), (by (with_reducible repeat (first | apply Kd.V_alloc | apply Kd.V_drewN | apply Kd.V_drew)); exact Kd.V_mono HO_112000.out (fun _ hk => ⟨hk.1.1.1, ⟨hk.1.2, ⟨hk.2, ⟨hk.1.1.2.1, ⟨hk.1.1.2.2.1, ⟨hk.1.1.2.2.2.1, hk.1.1.2.2.2.2⟩⟩⟩⟩⟩⟩)), (by (with_reducible repeat (first | refine blk_drewN ?_ _ | refine blk_drew ?_ | refine blk_alloc ?_ _)); exact BK111.out), (by (with_reducible repeat (first | refine blk_drewN ?_ _ | refine blk_drew ?_ | refine blk_alloc ?_ _)); exact BK112.out), (by (with_reducible repeat (first | refine blk_drewN ?_ _ | refine blk_drew ?_ | refine blk_alloc ?_ _)); exact BK113.out), (by (with_reducible repeat (first | refine blk_drewN ?_ _ | refine blk_drew ?_ | refine blk_alloc ?_ _)); exact BK116.out), (by repeat (first | (with_reducible first | exact HB.out | apply below_alloc | apply pw_below_drewN | apply below_drew1 | refine below_set ?_ GE111.out | refine below_set ?_ GE112.out | refine below_set ?_ GE113.out | refine below_set ?_ GE116.out) | exact HB.out))⟩)
                · skip
                  refine goes_ Try.func40 (by kernel_rfl) rfl #[.slice (some ad114) x112000_1.length co14, .agg #[.int .i64 a1_0, .int .i64 a1_1, .int .i64 a1_2]] (by rfl) rfl rfl (by (try simp only [List.map_toArray, List.map_cons, List.map_nil]); first | done | rfl | (simp only [List.length_drop, List.length_take]; rfl)) ?_
                  with_reducible refine (revetmentref35_without.calls k1 _ _ x112000_1 a1_0 a1_1 a1_2 t120 _ ?side1 ?side2 A9.out).mono ?_
                  (case side1 => repeat (first | exact (Kd.V_reads' HO_112000.out).2.2 | (with_reducible refine Kd.C_alloc ?_ _) | (with_reducible refine Kd.C_drewN ?_ _) | (with_reducible refine Kd.C_drew ?_)))
                  (case side2 => exact (Kd.V_reads' HO_112000.out).2.1)
                  rintro e w24 ⟨v121, rfl, ho0, hb⟩
                  refine ⟨_, rfl, ?_⟩
                  have n0_ := Aside0.mk (Kd.V_elder' (by (with_reducible repeat (first | apply Kd.V_alloc | apply Kd.V_drewN | apply Kd.V_drew)); exact HO_112000.out) (Kd.R_base ho0) hb)
                  have n1_ := Aside0.mk (Kd.R_lower (Kd.R_newB (Kd.R_newM (M := fun k_ => (w.heap.size ≤ k_)) ho0 (below_size (by repeat (first | (with_reducible first | exact HB.out | apply below_alloc | apply pw_below_drewN | apply below_drew1 | refine below_set ?_ GE111.out | refine below_set ?_ GE112.out | refine below_set ?_ GE113.out | refine below_set ?_ GE116.out) | exact HB.out))) (fun k_ h_ => h_)) (g := gb116) (o := .cells #[.int .i64 ((rd_T58 x112000_1 x7_1).f0.f0), .int .i64 ((rd_T58 x112000_1 x7_1).f0.f1), .int .i64 ((rd_T58 x112000_1 x7_1).f0.f2), .string ((rd_T58 x112000_1 x7_1).f1)] 58 (0, 0)) (by (with_reducible repeat (first | refine blk_drewN ?_ _ | refine blk_drew ?_ | refine blk_alloc ?_ _)); exact BK116.out)) (below_size (by repeat (first | (with_reducible first | exact HB.out | apply below_alloc | apply pw_below_drewN | apply below_drew1 | refine below_set ?_ GE111.out | refine below_set ?_ GE112.out | refine below_set ?_ GE113.out | refine below_set ?_ GE116.out) | exact HB.out))))
                  have n2_ := Aside0.mk (blk_below (g := gb111) (o := .cells #[.slice (some ad114) x112000_1.length co14, .int .i64 a0_1, .int .i64 x112002_1, .int .i64 a0_3] 45 (0, 0)) (by (with_reducible repeat (first | refine blk_drewN ?_ _ | refine blk_drew ?_ | refine blk_alloc ?_ _)); exact BK111.out) hb)
                  have n3_ := Aside0.mk (blk_below (g := gb112) (o := .cells #[.int .i64 a1_0, .int .i64 a1_1, .int .i64 a1_2] 36 (0, 0)) (by (with_reducible repeat (first | refine blk_drewN ?_ _ | refine blk_drew ?_ | refine blk_alloc ?_ _)); exact BK112.out) hb)
                  have n4_ := Aside0.mk (blk_below (g := gb113) (o := .cells #[.slice none 0 0, .int .i64 x114001_1, .int .i64 x114002_1, .int .i64 x114003_1] 45 (0, 0)) (by (with_reducible repeat (first | refine blk_drewN ?_ _ | refine blk_drew ?_ | refine blk_alloc ?_ _)); exact BK113.out) hb)
                  have n5_ := Aside0.mk (blk_below (g := gb116) (o := .cells #[.int .i64 ((rd_T58 x112000_1 x7_1).f0.f0), .int .i64 ((rd_T58 x112000_1 x7_1).f0.f1), .int .i64 ((rd_T58 x112000_1 x7_1).f0.f2), .string ((rd_T58 x112000_1 x7_1).f1)] 58 (0, 0)) (by (with_reducible repeat (first | refine blk_drewN ?_ _ | refine blk_drew ?_ | refine blk_alloc ?_ _)); exact BK116.out) hb)
                  have n6_ := Aside0.mk (below_step (by repeat (first | (with_reducible first | exact HB.out | apply below_alloc | apply pw_below_drewN | apply below_drew1 | refine below_set ?_ GE111.out | refine below_set ?_ GE112.out | refine below_set ?_ GE113.out | refine below_set ?_ GE116.out) | exact HB.out)) hb)
                  clear HO_112000
                  clear BK111
                  clear BK112
                  clear BK113
                  clear BK116
                  clear HB
                  have HO_112000 := n0_
                  have HO122 := n1_
                  have BK111 := n2_
                  have BK112 := n3_
                  have BK113 := n4_
                  have BK116 := n5_
                  have HB := n6_
                  clear n0_ n1_ n2_ n3_ n4_ n5_ n6_
                  (try clear hb)
                  (try clear hb2)
                  (try clear hk)
                  (try clear hi)
                  (try clear ho0)
                  refine hK.out _ _ ⟨(blk_cell BK116.out 0).trans rfl, (blk_cell BK116.out 1).trans rfl, (blk_cell BK116.out 2).trans rfl, (blk_cell BK116.out 3).trans rfl, (blk_cell BK111.out 0).trans rfl, (blk_cell BK111.out 1).trans rfl, (blk_cell BK111.out 2).trans rfl, (blk_cell BK111.out 3).trans rfl, (blk_cell BK112.out 0).trans rfl, (blk_cell BK112.out 1).trans rfl, (blk_cell BK112.out 2).trans rfl⟩ (fun hHeld => ?_)
                  clear hK K
                  refine norm_ (a' := ?_) ?_ ?_
                  rotate_left
                  · show Act.put _ (some 34) _ = _
                    simp only [Act.put, List.setIfInBounds_toArray, List.set_cons_zero, List.set_cons_succ, i64_w, i32_w]
                    rfl
                  refine one_ (i := 1) (N := some 30) #[true, true, true, true, true, true, false, false, false] rfl rfl (one_of HT_.out (by kernel_rfl)) (by decide) (fun K hK => ?_)
                  refine Kd.R_lit_step k58 _ 58 ?hg (N := 30) ?hd (xs := ([(⟨(⟨(rd_T58 x112000_1 x7_1).f0.f0, (rd_T58 x112000_1 x7_1).f0.f1, (rd_T58 x112000_1 x7_1).f0.f2⟩ : S36), (rd_T58 x112000_1 x7_1).f1⟩ : S58)] : List (S58))) (inner := [.int .i64 ((rd_T58 x112000_1 x7_1).f0.f0), .int .i64 ((rd_T58 x112000_1 x7_1).f0.f1), .int .i64 ((rd_T58 x112000_1 x7_1).f0.f2), .string ((rd_T58 x112000_1 x7_1).f1)]) (ok := fun _ => True) (okp := fun _ => True) ?hr ?hp (fun _ hk => hk) trivial (Below.refl _ _) (Nat.le_refl _) (by simp) ?_; (case hd => rfl); (case hg => rfl); (case hr => first | (go_simp; done) | (go_simp; rfl)); (case hp => exact (Reps.c4 (show Kd.M k58 _ _ _ (⟨(⟨(rd_T58 x112000_1 x7_1).f0.f0, (rd_T58 x112000_1 x7_1).f0.f1, (rd_T58 x112000_1 x7_1).f0.f2⟩ : S36), (rd_T58 x112000_1 x7_1).f1⟩ : S58) [.int .i64 ((rd_T58 x112000_1 x7_1).f0.f0), .int .i64 ((rd_T58 x112000_1 x7_1).f0.f1), .int .i64 ((rd_T58 x112000_1 x7_1).f0.f2), .string ((rd_T58 x112000_1 x7_1).f1)] from (k58_mkM _ _ _ (⟨(⟨(rd_T58 x112000_1 x7_1).f0.f0, (rd_T58 x112000_1 x7_1).f0.f1, (rd_T58 x112000_1 x7_1).f0.f2⟩ : S36), (rd_T58 x112000_1 x7_1).f1⟩ : S58) )) (Reps.none _ _)))
                  intro v118 w25 ho26 hb hg_ hnew_
                  clear hg_ hnew_
                  (first | rw [← Ny117.out] at ho26 | (simp only [Int.reduceToNat] at ho26; rw [← Ny117.out] at ho26))
                  have n0_ := Aside0.mk (Kd.V_elder' (by (with_reducible repeat (first | apply Kd.V_alloc | apply Kd.V_drewN | apply Kd.V_drew)); exact HO_112000.out) (Kd.R_base ho26) hb)
                  have n1_ := Aside0.mk (Kd.R_elder' (by (with_reducible repeat (first | apply Kd.R_alloc | apply Kd.R_drewN | apply Kd.R_drew)); exact HO122.out) (Kd.R_base ho26) hb)
                  have n2_ := Aside0.mk (Kd.R_lower (Kd.R_newB (Kd.R_new' (Kd.R_newM (M := fun k_ => (w.heap.size ≤ k_)) ho26 (below_size (by repeat (first | (with_reducible first | exact HB.out | apply below_alloc | apply pw_below_drewN | apply below_drew1 | refine below_set ?_ GE111.out | refine below_set ?_ GE112.out | refine below_set ?_ GE113.out | refine below_set ?_ GE116.out) | exact HB.out))) (fun k_ h_ => h_)) (Kd.R_lt (by (with_reducible repeat (first | apply Kd.R_alloc | apply Kd.R_drewN | apply Kd.R_drew)); exact HO122.out))) (g := gb116) (o := .cells #[.int .i64 ((rd_T58 x112000_1 x7_1).f0.f0), .int .i64 ((rd_T58 x112000_1 x7_1).f0.f1), .int .i64 ((rd_T58 x112000_1 x7_1).f0.f2), .string ((rd_T58 x112000_1 x7_1).f1)] 58 (0, 0)) (by (with_reducible repeat (first | refine blk_drewN ?_ _ | refine blk_drew ?_ | refine blk_alloc ?_ _)); exact BK116.out)) (below_size (by repeat (first | (with_reducible first | exact HB.out | apply below_alloc | apply pw_below_drewN | apply below_drew1 | refine below_set ?_ GE111.out | refine below_set ?_ GE112.out | refine below_set ?_ GE113.out | refine below_set ?_ GE116.out) | exact HB.out))))
                  have n3_ := Aside0.mk (blk_below (g := gb111) (o := .cells #[.slice (some ad114) x112000_1.length co14, .int .i64 a0_1, .int .i64 x112002_1, .int .i64 a0_3] 45 (0, 0)) (by (with_reducible repeat (first | refine blk_drewN ?_ _ | refine blk_drew ?_ | refine blk_alloc ?_ _)); exact BK111.out) hb)
                  have n4_ := Aside0.mk (blk_below (g := gb112) (o := .cells #[.int .i64 a1_0, .int .i64 a1_1, .int .i64 a1_2] 36 (0, 0)) (by (with_reducible repeat (first | refine blk_drewN ?_ _ | refine blk_drew ?_ | refine blk_alloc ?_ _)); exact BK112.out) hb)
                  have n5_ := Aside0.mk (blk_below (g := gb113) (o := .cells #[.slice none 0 0, .int .i64 x114001_1, .int .i64 x114002_1, .int .i64 x114003_1] 45 (0, 0)) (by (with_reducible repeat (first | refine blk_drewN ?_ _ | refine blk_drew ?_ | refine blk_alloc ?_ _)); exact BK113.out) hb)
                  have n6_ := Aside0.mk (blk_below (g := gb116) (o := .cells #[.int .i64 ((rd_T58 x112000_1 x7_1).f0.f0), .int .i64 ((rd_T58 x112000_1 x7_1).f0.f1), .int .i64 ((rd_T58 x112000_1 x7_1).f0.f2), .string ((rd_T58 x112000_1 x7_1).f1)] 58 (0, 0)) (by (with_reducible repeat (first | refine blk_drewN ?_ _ | refine blk_drew ?_ | refine blk_alloc ?_ _)); exact BK116.out) hb)
                  have n7_ := Aside0.mk (below_step (by repeat (first | (with_reducible first | exact HB.out | apply below_alloc | apply pw_below_drewN | apply below_drew1 | refine below_set ?_ GE111.out | refine below_set ?_ GE112.out | refine below_set ?_ GE113.out | refine below_set ?_ GE116.out) | exact HB.out)) hb)
                  clear HO_112000
                  clear HO122
                  clear BK111
                  clear BK112
                  clear BK113
                  clear BK116
                  clear HB
                  have HO_112000 := n0_
                  have HO122 := n1_
                  have HO119 := n2_
                  have BK111 := n3_
                  have BK112 := n4_
                  have BK113 := n5_
                  have BK116 := n6_
                  have HB := n7_
                  clear n0_ n1_ n2_ n3_ n4_ n5_ n6_ n7_
                  clear hb ho26
                  refine hK.out _ _ ⟨(blk_cell BK116.out 0).trans rfl, (blk_cell BK116.out 1).trans rfl, (blk_cell BK116.out 2).trans rfl, (blk_cell BK116.out 3).trans rfl, (blk_cell BK111.out 0).trans rfl, (blk_cell BK111.out 1).trans rfl, (blk_cell BK111.out 2).trans rfl, (blk_cell BK111.out 3).trans rfl, (blk_cell BK112.out 0).trans rfl, (blk_cell BK112.out 1).trans rfl, (blk_cell BK112.out 2).trans rfl⟩ (fun hHeld => ?_)
                  clear hK K
                  refine norm_ (a' := ?_) ?_ ?_
                  rotate_left
                  · show Act.put _ (some 30) _ = _
                    simp only [Act.put, List.setIfInBounds_toArray, List.set_cons_zero, List.set_cons_succ, i64_w, i32_w]
                    rfl
                  exact norm_ (by simp only [putAll, Act.put, List.setIfInBounds_toArray, List.set_cons_zero, List.set_cons_succ]) (hCont (v118, v121) _ ⟨hHeld, (by (with_reducible repeat (first | apply Kd.R_alloc | apply Kd.R_drewN | apply Kd.R_drew)); exact Kd.R_mono HO119.out (fun _ hk => ⟨hk.1.1.1, ⟨hk.1.2, hk.2⟩⟩)), (by (with_reducible repeat (first | apply Kd.R_alloc | apply Kd.R_drewN | apply Kd.R_drew)); exact Kd.R_mono HO122.out (fun _ hk => ⟨hk.1.1.1, ⟨hk.2, hk.1.2⟩⟩)), (by (with_reducible repeat (first | apply Kd.V_alloc | apply Kd.V_drewN | apply Kd.V_drew)); exact Kd.V_mono HO_112000.out (fun _ hk => ⟨hk.1.1.1, ⟨hk.2, ⟨hk.1.2, ⟨hk.1.1.2.1, ⟨hk.1.1.2.2.1, ⟨hk.1.1.2.2.2.1, hk.1.1.2.2.2.2⟩⟩⟩⟩⟩⟩)), (by (with_reducible repeat (first | refine blk_drewN ?_ _ | refine blk_drew ?_ | refine blk_alloc ?_ _)); exact BK111.out), (by (with_reducible repeat (first | refine blk_drewN ?_ _ | refine blk_drew ?_ | refine blk_alloc ?_ _)); exact BK112.out), (by (with_reducible repeat (first | refine blk_drewN ?_ _ | refine blk_drew ?_ | refine blk_alloc ?_ _)); exact BK113.out), (by (with_reducible repeat (first | refine blk_drewN ?_ _ | refine blk_drew ?_ | refine blk_alloc ?_ _)); exact BK116.out), (by repeat (first | (with_reducible first | exact HB.out | apply below_alloc | apply pw_below_drewN | apply below_drew1 | refine below_set ?_ GE111.out | refine below_set ?_ GE112.out | refine below_set ?_ GE113.out | refine below_set ?_ GE116.out) | exact HB.out))⟩)
              rintro ⟨v118, v121⟩ w27 ⟨hS_, h0_, h1_, h2_, h3_, h4_, h5_, h6_, h7_⟩
              have n0_ : Aside0 (Kd.R k58 58 w27 w.heap.size (fun k_ => (w.heap.size ≤ k_) ∧ some k_ ≠ (v121 : Value).ownBlock ∧ k_ ≠ gb116) v118 y117) := ⟨h0_⟩
              have n1_ : Aside0 (Kd.R k58 58 w27 w.heap.size (fun k_ => (w.heap.size ≤ k_) ∧ some k_ ≠ (v118 : Value).ownBlock ∧ k_ ≠ gb116) v121 t120) := ⟨h1_⟩
              have n2_ : Aside0 (Kd.V k58 58 w27 w.heap.size (fun k_ => (P0_0_ k_ ∨ w.heap.size ≤ k_) ∧ some k_ ≠ (v118 : Value).ownBlock ∧ some k_ ≠ (v121 : Value).ownBlock ∧ k_ ≠ gb111 ∧ k_ ≠ gb112 ∧ k_ ≠ gb113 ∧ k_ ≠ gb116) (.slice (some ad114) x112000_1.length co14) x112000_1) := ⟨h2_⟩
              have n3_ : Aside0 (w27.heap[gb111]? = some (.cells #[.slice (some ad114) x112000_1.length co14, .int .i64 a0_1, .int .i64 x112002_1, .int .i64 a0_3] 45 (0, 0))) := ⟨h3_⟩
              have n4_ : Aside0 (w27.heap[gb112]? = some (.cells #[.int .i64 a1_0, .int .i64 a1_1, .int .i64 a1_2] 36 (0, 0))) := ⟨h4_⟩
              have n5_ : Aside0 (w27.heap[gb113]? = some (.cells #[.slice none 0 0, .int .i64 x114001_1, .int .i64 x114002_1, .int .i64 x114003_1] 45 (0, 0))) := ⟨h5_⟩
              have n6_ : Aside0 (w27.heap[gb116]? = some (.cells #[.int .i64 ((rd_T58 x112000_1 x7_1).f0.f0), .int .i64 ((rd_T58 x112000_1 x7_1).f0.f1), .int .i64 ((rd_T58 x112000_1 x7_1).f0.f2), .string ((rd_T58 x112000_1 x7_1).f1)] 58 (0, 0))) := ⟨h6_⟩
              have n7_ : Aside0 (Below w.heap.size w w27) := ⟨h7_⟩
              clear HO_112000
              clear BK111
              clear BK112
              clear BK113
              clear BK116
              clear HB
              clear h0_ h1_ h2_ h3_ h4_ h5_ h6_ h7_
              have HO119 := n0_
              have HO122 := n1_
              have HO_112000 := n2_
              have BK111 := n3_
              have BK112 := n4_
              have BK113 := n5_
              have BK116 := n6_
              have HB := n7_
              clear n0_ n1_ n2_ n3_ n4_ n5_ n6_ n7_
              have hHeld : w27.cell? ⟨gb116, 0, none⟩ = some (.int .i64 ((rd_T58 x112000_1 x7_1).f0.f0)) ∧ w27.cell? ⟨gb116, 1, none⟩ = some (.int .i64 ((rd_T58 x112000_1 x7_1).f0.f1)) ∧ w27.cell? ⟨gb116, 2, none⟩ = some (.int .i64 ((rd_T58 x112000_1 x7_1).f0.f2)) ∧ w27.cell? ⟨gb116, 3, none⟩ = some (.string ((rd_T58 x112000_1 x7_1).f1)) ∧ w27.cell? ⟨gb111, 0, none⟩ = some (.slice (some ad114) x112000_1.length co14) ∧ w27.cell? ⟨gb111, 1, none⟩ = some (.int .i64 a0_1) ∧ w27.cell? ⟨gb111, 2, none⟩ = some (.int .i64 x112002_1) ∧ w27.cell? ⟨gb111, 3, none⟩ = some (.int .i64 a0_3) ∧ w27.cell? ⟨gb112, 0, none⟩ = some (.int .i64 a1_0) ∧ w27.cell? ⟨gb112, 1, none⟩ = some (.int .i64 a1_1) ∧ w27.cell? ⟨gb112, 2, none⟩ = some (.int .i64 a1_2) := hS_
              obtain ⟨Ao29, co29, eo29⟩ := Kd.R_slice HO122.out
              (first | subst eo29 | (injection eo29 with f1_ f2_ f3_; have f4_ := f1_.symm; have f5_ := f3_.symm; clear f1_ f2_ f3_; subst f4_; subst f5_))
              refine norm_ (a' := ?_) ?_ ?_
              rotate_left
              · simp only [putAll, Act.put, List.setIfInBounds_toArray, List.set_cons_zero, List.set_cons_succ]
                rfl
              refine one_ (i := 6) (N := some 35) #[true, true, true, true, true, true, true, false, false] rfl rfl (one_of HT_.out (by kernel_rfl)) (by decide) (fun K hK => ?_)
              refine Kd.R_append_rows_step k58 (w0 := w) w.heap.size (by rfl) (.tmp 30) (.tmp 34) 43 58 (.agg #[(.int .i64 0), (.int .i64 0), (.int .i64 0), (.string ⟨#[]⟩)]) 40 rfl Try.underlying43 info58 rfl (by decide) (by omega) v118 y117 t120 _ _ _ (fun k_ => (w.heap.size ≤ k_) ∧ some k_ ≠ (.slice Ao29 t120.length co29 : Value).ownBlock ∧ k_ ≠ gb116) (fun _ => False) rfl rfl ?aO ?aR (fun _ _ h => h) (fun _ h => h.elim) ?aF ?aB ?aS ?aL ?_
              (case aR => repeat (first | exact (Kd.R_reads' HO122.out).2.2 | (with_reducible refine Kd.C_alloc ?_ _) | (with_reducible refine Kd.C_drewN ?_ _) | (with_reducible refine Kd.C_drew ?_)))
              (case aB => exact (by repeat (first | (with_reducible first | exact HB.out | apply below_alloc | apply pw_below_drewN | apply below_drew1 | refine below_set ?_ GE111.out | refine below_set ?_ GE112.out | refine below_set ?_ GE113.out | refine below_set ?_ GE116.out) | exact HB.out)))
              (case aF => exact (fun k_ hk => ⟨(Nat.le_trans (below_size (by repeat (first | (with_reducible first | exact HB.out | apply below_alloc | apply pw_below_drewN | apply below_drew1 | refine below_set ?_ GE111.out | refine below_set ?_ GE112.out | refine below_set ?_ GE113.out | refine below_set ?_ GE116.out) | exact HB.out))) hk), Kd.fresh' (Kd.R_lt (by (with_reducible repeat (first | apply Kd.R_alloc | apply Kd.R_drewN | apply Kd.R_drew)); exact HO122.out)) k_ hk, Kd.freshB (g := gb116) (o := .cells #[.int .i64 ((rd_T58 x112000_1 x7_1).f0.f0), .int .i64 ((rd_T58 x112000_1 x7_1).f0.f1), .int .i64 ((rd_T58 x112000_1 x7_1).f0.f2), .string ((rd_T58 x112000_1 x7_1).f1)] 58 (0, 0)) (by (with_reducible repeat (first | refine blk_drewN ?_ _ | refine blk_drew ?_ | refine blk_alloc ?_ _)); exact BK116.out) k_ hk⟩))
              (case aO => exact (by (with_reducible repeat (first | apply Kd.R_alloc | apply Kd.R_drewN | apply Kd.R_drew)); exact HO119.out))
              (case aS => exact (below_size (by repeat (first | (with_reducible first | exact HB.out | apply below_alloc | apply pw_below_drewN | apply below_drew1 | refine below_set ?_ GE111.out | refine below_set ?_ GE112.out | refine below_set ?_ GE113.out | refine below_set ?_ GE116.out) | exact HB.out))))
              (case aL => have := LMc10.out; omega)
              intro v124 w28 ho hb hg hat
              rw [← Ny123.out] at ho
              have n0_ := Aside0.mk (Kd.V_afterv (ok := (fun k_ => (P0_0_ k_ ∨ w.heap.size ≤ k_) ∧ some k_ ≠ (.slice Ao29 t120.length co29 : Value).ownBlock ∧ k_ ≠ gb111 ∧ k_ ≠ gb112 ∧ k_ ≠ gb113 ∧ k_ ≠ gb116)) (by (with_reducible repeat (first | apply Kd.V_alloc | apply Kd.V_drewN | apply Kd.V_drew)); exact Kd.V_mono HO_112000.out (fun _ hk => ⟨⟨hk.1, ⟨hk.2.2.1, ⟨hk.2.2.2.1, ⟨hk.2.2.2.2.1, ⟨hk.2.2.2.2.2.1, hk.2.2.2.2.2.2⟩⟩⟩⟩⟩, hk.2.1⟩)) hg hat)
              have n1_ := Aside0.mk (blk_grown (g := gb111) (o := .cells #[.slice (some ad114) x112000_1.length co14, .int .i64 a0_1, .int .i64 x112002_1, .int .i64 a0_3] 45 (0, 0)) (by (with_reducible repeat (first | refine blk_drewN ?_ _ | refine blk_drew ?_ | refine blk_alloc ?_ _)); exact BK111.out) hg (Kd.R_ne HO119.out BK111.out (by decide)))
              have n2_ := Aside0.mk (blk_grown (g := gb112) (o := .cells #[.int .i64 a1_0, .int .i64 a1_1, .int .i64 a1_2] 36 (0, 0)) (by (with_reducible repeat (first | refine blk_drewN ?_ _ | refine blk_drew ?_ | refine blk_alloc ?_ _)); exact BK112.out) hg (Kd.R_ne HO119.out BK112.out (by decide)))
              have n3_ := Aside0.mk (blk_grown (g := gb113) (o := .cells #[.slice none 0 0, .int .i64 x114001_1, .int .i64 x114002_1, .int .i64 x114003_1] 45 (0, 0)) (by (with_reducible repeat (first | refine blk_drewN ?_ _ | refine blk_drew ?_ | refine blk_alloc ?_ _)); exact BK113.out) hg (Kd.R_ne HO119.out BK113.out (by decide)))
              have n4_ := Aside0.mk (blk_grown (g := gb116) (o := .cells #[.int .i64 ((rd_T58 x112000_1 x7_1).f0.f0), .int .i64 ((rd_T58 x112000_1 x7_1).f0.f1), .int .i64 ((rd_T58 x112000_1 x7_1).f0.f2), .string ((rd_T58 x112000_1 x7_1).f1)] 58 (0, 0)) (by (with_reducible repeat (first | refine blk_drewN ?_ _ | refine blk_drew ?_ | refine blk_alloc ?_ _)); exact BK116.out) hg (Kd.R_away HO119.out (fun _ hk => hk.2.2)))
              have n5_ := Aside0.mk (Kd.R_after (ok := (fun k_ => (w.heap.size ≤ k_) ∧ k_ ≠ gb116)) (by (with_reducible repeat (first | apply Kd.R_alloc | apply Kd.R_drewN | apply Kd.R_drew)); exact Kd.R_mono HO122.out (fun _ hk => ⟨⟨hk.1, hk.2.2⟩, hk.2.1⟩)) hg hat)
              have n6_ := Aside0.mk (hb)
              have n7_ := Aside0.mk (ho)
              clear HO_112000
              clear BK111
              clear BK112
              clear BK113
              clear BK116
              clear HO122
              clear HB
              clear HO119
              have HO_112000 := n0_
              have BK111 := n1_
              have BK112 := n2_
              have BK113 := n3_
              have BK116 := n4_
              have HO122 := n5_
              have HB := n6_
              have HO125 := n7_
              clear n0_ n1_ n2_ n3_ n4_ n5_ n6_ n7_
              clear ho hb hg hat
              obtain ⟨Ao30, co30, eo30⟩ := Kd.R_slice HO125.out
              (first | subst eo30 | (injection eo30 with f1_ f2_ f3_; have f4_ := f1_.symm; have f5_ := f3_.symm; clear f1_ f2_ f3_; subst f4_; subst f5_))
              refine hK.out _ _ ⟨(blk_cell BK116.out 0).trans rfl, (blk_cell BK116.out 1).trans rfl, (blk_cell BK116.out 2).trans rfl, (blk_cell BK116.out 3).trans rfl, (blk_cell BK111.out 0).trans rfl, (blk_cell BK111.out 1).trans rfl, (blk_cell BK111.out 2).trans rfl, (blk_cell BK111.out 3).trans rfl, (blk_cell BK112.out 0).trans rfl, (blk_cell BK112.out 1).trans rfl, (blk_cell BK112.out 2).trans rfl⟩ (fun hHeld => ?_)
              clear hK K
              refine norm_ (a' := ?_) ?_ ?_
              rotate_left
              · show Act.put _ (some 35) _ = _
                simp only [Act.put, List.setIfInBounds_toArray, List.set_cons_zero, List.set_cons_succ, i64_w, i32_w]
                rfl
              refine pure_ (i := 7) (N := some 36) (v := ?_) (a' := ?_) #[true, true, true, true, true, true, true, true, false] rfl rfl (any_of HT_.out (by kernel_rfl)) (fun _ _ _ h => h) (Or.inl ⟨by rfl, ?_⟩) ?_ ?_
              rotate_left
              · intro w'
                go_simp
                with_reducible rfl
              rotate_left
              · simp only [Act.put, List.setIfInBounds_toArray, List.set_cons_zero, List.set_cons_succ, i64_w, i32_w]
                rfl
              refine last_ (i := 8) (N := none) #[true, true, true, true, true, true, true, true, true] rfl rfl (one_of HT_.out (by kernel_rfl)) (by decide) (fun K hK => ?_)
              have hs31 : w28.cell? ⟨gb111, 0, none⟩ = some (.slice (some ad114) x112000_1.length co14) := (blk_cell BK111.out 0).trans rfl
              have hfs31 := blk_frozen BK111.out 0
              have hns31_1 := NB112_111.out
              have hns31_2 := NB113_111.out
              have hns31_3 := NB116_111.out
              have hms31_1 := NB111_112.out
              have hms31_2 := NB111_113.out
              have hms31_3 := NB111_116.out
              refine skip_ (w1 := ?_) (by rfl) rfl ?_ ?_
              rotate_left
              · go_simp
                rfl
              refine hK.out _ _ ?_
              clear hK K
              refine done_ (done_of HT_.out (by kernel_rfl)) ?_
              have hcz32_0 : w28.cell? ⟨gb111, 0, none⟩ = some (.slice (some ad114) x112000_1.length co14) := (blk_cell BK111.out 0).trans rfl
              have hcz32_1 : w28.cell? ⟨gb111, 1, none⟩ = some (.int .i64 a0_1) := (blk_cell BK111.out 1).trans rfl
              have hcz32_2 : w28.cell? ⟨gb111, 2, none⟩ = some (.int .i64 x112002_1) := (blk_cell BK111.out 2).trans rfl
              have hcz32_3 : w28.cell? ⟨gb111, 3, none⟩ = some (.int .i64 a0_3) := (blk_cell BK111.out 3).trans rfl
              have hfz32_0 := blk_frozen BK111.out 0
              have hfz32_1 := blk_frozen BK111.out 1
              have hfz32_2 := blk_frozen BK111.out 2
              have hfz32_3 := blk_frozen BK111.out 3
              try go_wp2
              have n0_ : Aside0 (Kd.V k58 58 ((w28.setCell ⟨gb111, 0, none⟩ (.slice Ao30 y123.length co30)).setCell ⟨gb111, 2, none⟩ (.int .i64 (wrap64 (x112002_1 + 1)))) w.heap.size (fun k_ => (P0_0_ k_ ∨ w.heap.size ≤ k_) ∧ some k_ ≠ (.slice Ao29 t120.length co29 : Value).ownBlock ∧ some k_ ≠ (.slice Ao30 y123.length co30 : Value).ownBlock ∧ k_ ≠ gb111 ∧ k_ ≠ gb112 ∧ k_ ≠ gb113 ∧ k_ ≠ gb116) (.slice (some ad114) x112000_1.length co14) x112000_1) := ⟨by (with_reducible repeat (first | apply Kd.V_alloc | apply Kd.V_drewN | apply Kd.V_drew)); exact Kd.V_mono (Kd.V_far (p := ⟨gb111, 2, none⟩) (Kd.V_far (p := ⟨gb111, 0, none⟩) (Kd.V_mono HO_112000.out (fun k_ hk => (⟨hk, hk.1.2.2.1⟩ : _ ∧ k_ ≠ gb111))) (fun _ hk => hk.2) (.slice Ao30 y123.length co30)) (fun _ hk => hk.2) (.int .i64 (wrap64 (x112002_1 + 1)))) (fun _ hk => ⟨hk.1.1.1, ⟨hk.1.1.2.1, ⟨hk.1.2, ⟨hk.1.1.2.2.1, ⟨hk.1.1.2.2.2.1, ⟨hk.1.1.2.2.2.2.1, hk.1.1.2.2.2.2.2⟩⟩⟩⟩⟩⟩)⟩
              have n1_ : Aside0 (Kd.R k58 58 ((w28.setCell ⟨gb111, 0, none⟩ (.slice Ao30 y123.length co30)).setCell ⟨gb111, 2, none⟩ (.int .i64 (wrap64 (x112002_1 + 1)))) w.heap.size (fun k_ => (w.heap.size ≤ k_) ∧ some k_ ≠ (.slice Ao30 y123.length co30 : Value).ownBlock ∧ k_ ≠ gb116) (.slice Ao29 t120.length co29) t120) := ⟨by (with_reducible repeat (first | apply Kd.R_alloc | apply Kd.R_drewN | apply Kd.R_drew)); exact Kd.R_mono (Kd.R_far (p := ⟨gb111, 2, none⟩) (Kd.R_far (p := ⟨gb111, 0, none⟩) (Kd.R_types HO122.out BK111.out (by decide)) (fun _ hk => hk.2) (.slice Ao30 y123.length co30)) (fun _ hk => hk.2) (.int .i64 (wrap64 (x112002_1 + 1)))) (fun _ hk => ⟨hk.1.1.1, ⟨hk.1.2, hk.1.1.2⟩⟩)⟩
              have n2_ : Aside0 (Kd.R k58 58 ((w28.setCell ⟨gb111, 0, none⟩ (.slice Ao30 y123.length co30)).setCell ⟨gb111, 2, none⟩ (.int .i64 (wrap64 (x112002_1 + 1)))) w.heap.size (fun k_ => (w.heap.size ≤ k_) ∧ some k_ ≠ (.slice Ao29 t120.length co29 : Value).ownBlock ∧ k_ ≠ gb116) (.slice Ao30 y123.length co30) y123) := ⟨by (with_reducible repeat (first | apply Kd.R_alloc | apply Kd.R_drewN | apply Kd.R_drew)); exact Kd.R_mono (Kd.R_far (p := ⟨gb111, 2, none⟩) (Kd.R_far (p := ⟨gb111, 0, none⟩) (Kd.R_types HO125.out BK111.out (by decide)) (fun _ hk => hk.2) (.slice Ao30 y123.length co30)) (fun _ hk => hk.2) (.int .i64 (wrap64 (x112002_1 + 1)))) (fun _ hk => ⟨hk.1.1, ⟨hk.1.2.1, hk.1.2.2⟩⟩)⟩
              have n3_ : Aside0 (((w28.setCell ⟨gb111, 0, none⟩ (.slice Ao30 y123.length co30)).setCell ⟨gb111, 2, none⟩ (.int .i64 (wrap64 (x112002_1 + 1)))).heap[gb111]? = some (.cells #[.slice Ao30 y123.length co30, .int .i64 a0_1, .int .i64 (wrap64 (x112002_1 + 1)), .int .i64 a0_3] 45 (0, 0))) := ⟨by (with_reducible repeat (first | refine blk_drewN ?_ _ | refine blk_drew ?_ | refine blk_alloc ?_ _)); refine blk_put (cs := #[.slice Ao30 y123.length co30, .int .i64 a0_1, .int .i64 x112002_1, .int .i64 a0_3]) ?_ 2 _ rfl; (with_reducible repeat (first | refine blk_drewN ?_ _ | refine blk_drew ?_ | refine blk_alloc ?_ _)); refine blk_put (cs := #[.slice (some ad114) x112000_1.length co14, .int .i64 a0_1, .int .i64 x112002_1, .int .i64 a0_3]) ?_ 0 _ rfl; (with_reducible repeat (first | refine blk_drewN ?_ _ | refine blk_drew ?_ | refine blk_alloc ?_ _)); exact BK111.out⟩
              have n4_ : Aside0 (((w28.setCell ⟨gb111, 0, none⟩ (.slice Ao30 y123.length co30)).setCell ⟨gb111, 2, none⟩ (.int .i64 (wrap64 (x112002_1 + 1)))).heap[gb112]? = some (.cells #[.int .i64 a1_0, .int .i64 a1_1, .int .i64 a1_2] 36 (0, 0))) := ⟨by (with_reducible repeat (first | refine blk_drewN ?_ _ | refine blk_drew ?_ | refine blk_alloc ?_ _)); refine blk_far ?_ NB112_111.out _; (with_reducible repeat (first | refine blk_drewN ?_ _ | refine blk_drew ?_ | refine blk_alloc ?_ _)); refine blk_far ?_ NB112_111.out _; (with_reducible repeat (first | refine blk_drewN ?_ _ | refine blk_drew ?_ | refine blk_alloc ?_ _)); exact BK112.out⟩
              have n5_ : Aside0 (((w28.setCell ⟨gb111, 0, none⟩ (.slice Ao30 y123.length co30)).setCell ⟨gb111, 2, none⟩ (.int .i64 (wrap64 (x112002_1 + 1)))).heap[gb113]? = some (.cells #[.slice none 0 0, .int .i64 x114001_1, .int .i64 x114002_1, .int .i64 x114003_1] 45 (0, 0))) := ⟨by (with_reducible repeat (first | refine blk_drewN ?_ _ | refine blk_drew ?_ | refine blk_alloc ?_ _)); refine blk_far ?_ NB113_111.out _; (with_reducible repeat (first | refine blk_drewN ?_ _ | refine blk_drew ?_ | refine blk_alloc ?_ _)); refine blk_far ?_ NB113_111.out _; (with_reducible repeat (first | refine blk_drewN ?_ _ | refine blk_drew ?_ | refine blk_alloc ?_ _)); exact BK113.out⟩
              have n6_ : Aside0 (((w28.setCell ⟨gb111, 0, none⟩ (.slice Ao30 y123.length co30)).setCell ⟨gb111, 2, none⟩ (.int .i64 (wrap64 (x112002_1 + 1)))).heap[gb116]? = some (.cells #[.int .i64 ((rd_T58 x112000_1 x7_1).f0.f0), .int .i64 ((rd_T58 x112000_1 x7_1).f0.f1), .int .i64 ((rd_T58 x112000_1 x7_1).f0.f2), .string ((rd_T58 x112000_1 x7_1).f1)] 58 (0, 0))) := ⟨by (with_reducible repeat (first | refine blk_drewN ?_ _ | refine blk_drew ?_ | refine blk_alloc ?_ _)); refine blk_far ?_ NB116_111.out _; (with_reducible repeat (first | refine blk_drewN ?_ _ | refine blk_drew ?_ | refine blk_alloc ?_ _)); refine blk_far ?_ NB116_111.out _; (with_reducible repeat (first | refine blk_drewN ?_ _ | refine blk_drew ?_ | refine blk_alloc ?_ _)); exact BK116.out⟩
              have n7_ : Aside0 (Below w.heap.size w ((w28.setCell ⟨gb111, 0, none⟩ (.slice Ao30 y123.length co30)).setCell ⟨gb111, 2, none⟩ (.int .i64 (wrap64 (x112002_1 + 1))))) := ⟨by repeat (first | (with_reducible first | exact HB.out | apply below_alloc | apply pw_below_drewN | apply below_drew1 | refine below_set ?_ GE111.out | refine below_set ?_ GE112.out | refine below_set ?_ GE113.out | refine below_set ?_ GE116.out) | exact HB.out)⟩
              (try clear HO_112000)
              (try clear HO122)
              (try clear HO125)
              (try clear BK111)
              (try clear BK112)
              (try clear BK113)
              (try clear BK116)
              (try clear HB)
              generalize ((w28.setCell ⟨gb111, 0, none⟩ (.slice Ao30 y123.length co30)).setCell ⟨gb111, 2, none⟩ (.int .i64 (wrap64 (x112002_1 + 1)))) = w33 at n0_ n1_ n2_ n3_ n4_ n5_ n6_ n7_ ⊢
              have HO_112000 := n0_
              have HO122 := n1_
              have HO125 := n2_
              have BK111 := n3_
              have BK112 := n4_
              have BK113 := n5_
              have BK116 := n6_
              have HB := n7_
              clear n0_ n1_ n2_ n3_ n4_ n5_ n6_ n7_
              have n0_ := Aside0.mk (Kd.V_drew HO_112000.out)
              have n1_ := Aside0.mk (Kd.R_drew HO122.out)
              have n2_ := Aside0.mk (Kd.R_drew HO125.out)
              have n3_ := Aside0.mk (blk_drew BK111.out)
              have n4_ := Aside0.mk (blk_drew BK112.out)
              have n5_ := Aside0.mk (blk_drew BK113.out)
              have n6_ := Aside0.mk (blk_drew BK116.out)
              have n7_ := Aside0.mk (below_drew1 HB.out)
              clear HO_112000
              clear HO122
              clear HO125
              clear BK111
              clear BK112
              clear BK113
              clear BK116
              clear HB
              have HO_112000 := n0_
              have HO122 := n1_
              have HO125 := n2_
              have BK111 := n3_
              have BK112 := n4_
              have BK113 := n5_
              have BK116 := n6_
              have HB := n7_
              clear n0_ n1_ n2_ n3_ n4_ n5_ n6_ n7_
              refine start_ (n := 6) (S := fun w' => w'.cell? ⟨gb111, 0, none⟩ = some (.slice Ao30 y123.length co30) ∧ w'.cell? ⟨gb111, 1, none⟩ = some (.int .i64 a0_1) ∧ w'.cell? ⟨gb111, 2, none⟩ = some (.int .i64 (wrap64 (x112002_1 + 1))) ∧ w'.cell? ⟨gb111, 3, none⟩ = some (.int .i64 a0_3) ∧ w'.cell? ⟨gb116, 0, none⟩ = some (.int .i64 ((rd_T58 x112000_1 x7_1).f0.f0)) ∧ w'.cell? ⟨gb116, 1, none⟩ = some (.int .i64 ((rd_T58 x112000_1 x7_1).f0.f1)) ∧ w'.cell? ⟨gb116, 2, none⟩ = some (.int .i64 ((rd_T58 x112000_1 x7_1).f0.f2)) ∧ w'.cell? ⟨gb116, 3, none⟩ = some (.string ((rd_T58 x112000_1 x7_1).f1))) (ds := []) #[false, false, false, false, false, false] (by kernel_rfl) rfl rfl ⟨(blk_cell BK111.out 0).trans rfl, (blk_cell BK111.out 1).trans rfl, (blk_cell BK111.out 2).trans rfl, (blk_cell BK111.out 3).trans rfl, (blk_cell BK116.out 0).trans rfl, (blk_cell BK116.out 1).trans rfl, (blk_cell BK116.out 2).trans rfl, (blk_cell BK116.out 3).trans rfl⟩ (fun hHeld => ?_)
              generalize w33.drew = w34 at HO_112000 HO122 HO125 BK111 BK112 BK113 BK116 HB hHeld ⊢
              refine pure_ (i := 1) (N := some 42) (v := ?_) (a' := ?_) #[false, true, false, false, false, false] rfl rfl (by kernel_rfl) (fun _ _ _ h => h) (Or.inl ⟨by rfl, ?_⟩) ?_ ?_
              rotate_left
              · intro w'
                go_simp
                with_reducible rfl
              rotate_left
              · simp only [Act.put, List.setIfInBounds_toArray, List.set_cons_zero, List.set_cons_succ, i64_w, i32_w]
                rfl
              refine take_ (i := 0) (N := some 41) (v := ?_) (a' := ?_) #[true, true, false, false, false, false] rfl rfl (by kernel_rfl) (fun _ _ _ h => h) (Or.inl ⟨by rfl, ?_⟩) hHeld ?_ ?_
              rotate_left
              · rintro w' ⟨s0, s1, s2, s3, s4, s5, s6, s7⟩
                go_simp
                with_reducible rfl
              rotate_left
              · simp only [Act.put, List.setIfInBounds_toArray, List.set_cons_zero, List.set_cons_succ, i64_w, i32_w]
                rfl
              refine take_ (i := 2) (N := some 43) (v := ?_) (a' := ?_) #[true, true, true, false, false, false] rfl rfl (by kernel_rfl) (fun _ _ _ h => h) (Or.inl ⟨by rfl, ?_⟩) hHeld ?_ ?_
              rotate_left
              · rintro w' ⟨s0, s1, s2, s3, s4, s5, s6, s7⟩
                go_simp
                with_reducible rfl
              rotate_left
              · simp only [Act.put, List.setIfInBounds_toArray, List.set_cons_zero, List.set_cons_succ, i64_w, i32_w]
                rfl
              refine one_ (i := 3) (N := none) #[true, true, true, true, false, false] rfl rfl (by kernel_rfl) (by decide) (fun K hK => ?_)
              have hs35 : w34.cell? ⟨gb113, 0, none⟩ = some (.slice none 0 0) := (blk_cell BK113.out 0).trans rfl
              have hfs35 := blk_frozen BK113.out 0
              have hns35_0 := NB111_113.out
              have hns35_1 := NB112_113.out
              have hns35_3 := NB116_113.out
              have hms35_0 := NB113_111.out
              have hms35_1 := NB113_112.out
              have hms35_3 := NB113_116.out
              have hs36 : w34.cell? ⟨gb113, 1, none⟩ = some (.int .i64 x114001_1) := (blk_cell BK113.out 1).trans rfl
              have hfs36 := blk_frozen BK113.out 1
              have hns36_0 := NB111_113.out
              have hns36_1 := NB112_113.out
              have hns36_3 := NB116_113.out
              have hms36_0 := NB113_111.out
              have hms36_1 := NB113_112.out
              have hms36_3 := NB113_116.out
              have hs37 : w34.cell? ⟨gb113, 2, none⟩ = some (.int .i64 x114002_1) := (blk_cell BK113.out 2).trans rfl
              have hfs37 := blk_frozen BK113.out 2
              have hns37_0 := NB111_113.out
              have hns37_1 := NB112_113.out
              have hns37_3 := NB116_113.out
              have hms37_0 := NB113_111.out
              have hms37_1 := NB113_112.out
              have hms37_3 := NB113_116.out
              have hs38 : w34.cell? ⟨gb113, 3, none⟩ = some (.int .i64 x114003_1) := (blk_cell BK113.out 3).trans rfl
              have hfs38 := blk_frozen BK113.out 3
              have hns38_0 := NB111_113.out
              have hns38_1 := NB112_113.out
              have hns38_3 := NB116_113.out
              have hms38_0 := NB113_111.out
              have hms38_1 := NB113_112.out
              have hms38_3 := NB113_116.out
              refine skip_ (w1 := ?_) (by rfl) rfl ?_ ?_
              rotate_left
              · go_simp
                rfl
              refine hK.out _ _ ⟨((cell_far (p := ⟨gb113, _, none⟩) NB111_113.out _).trans (((cell_far (p := ⟨gb113, _, none⟩) NB111_113.out _).trans (((cell_far (p := ⟨gb113, _, none⟩) NB111_113.out _).trans (((cell_far (p := ⟨gb113, _, none⟩) NB111_113.out _).trans (hHeld.1)))))))), ((cell_far (p := ⟨gb113, _, none⟩) NB111_113.out _).trans (((cell_far (p := ⟨gb113, _, none⟩) NB111_113.out _).trans (((cell_far (p := ⟨gb113, _, none⟩) NB111_113.out _).trans (((cell_far (p := ⟨gb113, _, none⟩) NB111_113.out _).trans (hHeld.2.1)))))))), ((cell_far (p := ⟨gb113, _, none⟩) NB111_113.out _).trans (((cell_far (p := ⟨gb113, _, none⟩) NB111_113.out _).trans (((cell_far (p := ⟨gb113, _, none⟩) NB111_113.out _).trans (((cell_far (p := ⟨gb113, _, none⟩) NB111_113.out _).trans (hHeld.2.2.1)))))))), ((cell_far (p := ⟨gb113, _, none⟩) NB111_113.out _).trans (((cell_far (p := ⟨gb113, _, none⟩) NB111_113.out _).trans (((cell_far (p := ⟨gb113, _, none⟩) NB111_113.out _).trans (((cell_far (p := ⟨gb113, _, none⟩) NB111_113.out _).trans (hHeld.2.2.2.1)))))))), ((cell_far (p := ⟨gb113, _, none⟩) NB116_113.out _).trans (((cell_far (p := ⟨gb113, _, none⟩) NB116_113.out _).trans (((cell_far (p := ⟨gb113, _, none⟩) NB116_113.out _).trans (((cell_far (p := ⟨gb113, _, none⟩) NB116_113.out _).trans (hHeld.2.2.2.2.1)))))))), ((cell_far (p := ⟨gb113, _, none⟩) NB116_113.out _).trans (((cell_far (p := ⟨gb113, _, none⟩) NB116_113.out _).trans (((cell_far (p := ⟨gb113, _, none⟩) NB116_113.out _).trans (((cell_far (p := ⟨gb113, _, none⟩) NB116_113.out _).trans (hHeld.2.2.2.2.2.1)))))))), ((cell_far (p := ⟨gb113, _, none⟩) NB116_113.out _).trans (((cell_far (p := ⟨gb113, _, none⟩) NB116_113.out _).trans (((cell_far (p := ⟨gb113, _, none⟩) NB116_113.out _).trans (((cell_far (p := ⟨gb113, _, none⟩) NB116_113.out _).trans (hHeld.2.2.2.2.2.2.1)))))))), ((cell_far (p := ⟨gb113, _, none⟩) NB116_113.out _).trans (((cell_far (p := ⟨gb113, _, none⟩) NB116_113.out _).trans (((cell_far (p := ⟨gb113, _, none⟩) NB116_113.out _).trans (((cell_far (p := ⟨gb113, _, none⟩) NB116_113.out _).trans (hHeld.2.2.2.2.2.2.2))))))))⟩ (fun hHeld => ?_)
              clear hK K
              refine pure_ (i := 4) (N := some 5) (v := ?_) (a' := ?_) #[true, true, true, true, true, false] rfl rfl (by kernel_rfl) (fun _ _ _ h => h) (Or.inl ⟨by rfl, ?_⟩) ?_ ?_
              rotate_left
              · intro w'
                go_simp
                with_reducible rfl
              rotate_left
              · simp only [Act.put, List.setIfInBounds_toArray, List.set_cons_zero, List.set_cons_succ, i64_w, i32_w]
                rfl
              refine pure_ (i := 5) (N := some 6) (v := ?_) (a' := ?_) #[true, true, true, true, true, true] rfl rfl (by kernel_rfl) (fun _ _ _ h => h) (Or.inl ⟨by rfl, ?_⟩) ?_ ?_
              rotate_left
              · intro w'
                go_simp
                with_reducible rfl
              rotate_left
              · simp only [Act.put, List.setIfInBounds_toArray, List.set_cons_zero, List.set_cons_succ, i64_w, i32_w]
                rfl
              refine done_ (by kernel_rfl) ?_
              try go_wp2
              refine bodyPost_ret (results_ctt rfl _ _ gb113 45 #[.slice Ao30 y123.length co30, .int .i64 a0_1, .int .i64 (wrap64 (x112002_1 + 1)), .int .i64 a0_3] (0, 0) _ rfl (by (with_reducible repeat (first | refine blk_drewN ?_ _ | refine blk_drew ?_ | refine blk_alloc ?_ _)); refine blk_put (cs := #[.slice Ao30 y123.length co30, .int .i64 a0_1, .int .i64 (wrap64 (x112002_1 + 1)), .int .i64 x114003_1]) ?_ 3 _ rfl; (with_reducible repeat (first | refine blk_drewN ?_ _ | refine blk_drew ?_ | refine blk_alloc ?_ _)); refine blk_put (cs := #[.slice Ao30 y123.length co30, .int .i64 a0_1, .int .i64 x114002_1, .int .i64 x114003_1]) ?_ 2 _ rfl; (with_reducible repeat (first | refine blk_drewN ?_ _ | refine blk_drew ?_ | refine blk_alloc ?_ _)); refine blk_put (cs := #[.slice Ao30 y123.length co30, .int .i64 x114001_1, .int .i64 x114002_1, .int .i64 x114003_1]) ?_ 1 _ rfl; (with_reducible repeat (first | refine blk_drewN ?_ _ | refine blk_drew ?_ | refine blk_alloc ?_ _)); refine blk_put (cs := #[.slice none 0 0, .int .i64 x114001_1, .int .i64 x114002_1, .int .i64 x114003_1]) ?_ 0 _ rfl; (with_reducible repeat (first | refine blk_drewN ?_ _ | refine blk_drew ?_ | refine blk_alloc ?_ _)); exact BK113.out) Try.underlying45 rfl (by kernel_rfl)) rfl ?_
              exact ⟨_, by first | rfl | (simp [errW_none, errW_some] <;> rfl) | (simp [*, errW_none, errW_some] <;> rfl), Kd.V_mono (Kd.R_V (by (with_reducible repeat (first | apply Kd.R_alloc | apply Kd.R_drewN | apply Kd.R_drew)); exact Kd.R_mono (Kd.R_far (p := ⟨gb113, 3, none⟩) (Kd.R_far (p := ⟨gb113, 2, none⟩) (Kd.R_far (p := ⟨gb113, 1, none⟩) (Kd.R_far (p := ⟨gb113, 0, none⟩) (Kd.R_types HO125.out BK113.out (by decide)) (fun _ hk => hk.2) (.slice Ao30 y123.length co30)) (fun _ hk => hk.2) (.int .i64 a0_1)) (fun _ hk => hk.2) (.int .i64 (wrap64 (x112002_1 + 1)))) (fun _ hk => hk.2) (.int .i64 a0_3)) (fun _ hk => hk.1.1))) (fun k_ hk => by first | exact ⟨(.inr (hk.1)), hk.2⟩ | exact (.inr (hk))), by repeat (first | (with_reducible first | exact HB.out | apply below_alloc | apply pw_below_drewN | apply below_drew1 | refine below_set ?_ GE111.out | refine below_set ?_ GE112.out | refine below_set ?_ GE113.out | refine below_set ?_ GE116.out) | exact HB.out)⟩
            · rw [if_neg c10] at H
              exact absurd H (by simp)
          · rw [if_neg c8] at H
            have c8b0 : (((rd_T58 x112000_1 x7_1).f0.f0) == a1_0 && (((rd_T58 x112000_1 x7_1).f0.f1) == a1_1 && (((rd_T58 x112000_1 x7_1).f0.f2) == a1_2))) = false := by simpa using c8
            (try (have c8b1 : decide (((rd_T58 x112000_1 x7_1).f0.f0) = a1_0 && (((rd_T58 x112000_1 x7_1).f0.f1) == a1_1 && (((rd_T58 x112000_1 x7_1).f0.f2) == a1_2))) = false := by simpa using c8))
            (try (have c8b2 : (((rd_T58 x112000_1 x7_1).f0.f0) == a1_0 && (((rd_T58 x112000_1 x7_1).f0.f1) == a1_1 && (((rd_T58 x112000_1 x7_1).f0.f2) == a1_2))) = false := by simpa using c8))
            (try (have c8b3 : ¬ (((rd_T58 x112000_1 x7_1).f0.f0) = a1_0 && (((rd_T58 x112000_1 x7_1).f0.f1) == a1_1 && (((rd_T58 x112000_1 x7_1).f0.f2) == a1_2))) := by simpa using c8))
            clear c8
            have H' := Aside0.mk H
            clear H
            have hnb39 := NB111_112.out
            have hnc39 := NB112_111.out
            have hnb40 := NB111_113.out
            have hnc40 := NB113_111.out
            have hcz41_0 : wr.cell? ⟨gb111, 0, none⟩ = some (u112000) := (blk_cell BK111.out 0).trans rfl
            have hcz41_1 : wr.cell? ⟨gb111, 1, none⟩ = some (.int .i64 a0_1) := (blk_cell BK111.out 1).trans rfl
            have hcz41_2 : wr.cell? ⟨gb111, 2, none⟩ = some (.int .i64 x112002_1) := (blk_cell BK111.out 2).trans rfl
            have hcz41_3 : wr.cell? ⟨gb111, 3, none⟩ = some (.int .i64 a0_3) := (blk_cell BK111.out 3).trans rfl
            have hfz41_0 := blk_frozen BK111.out 0
            have hfz41_1 := blk_frozen BK111.out 1
            have hfz41_2 := blk_frozen BK111.out 2
            have hfz41_3 := blk_frozen BK111.out 3
            obtain ⟨Ao42, co42, eo42⟩ := Kd.V_slice HO_112000.out
            subst eo42
            try go_wp2
            have n0_ := Aside0.mk (Kd.V_drew HO_112000.out)
            have n1_ := Aside0.mk (blk_drew BK111.out)
            have n2_ := Aside0.mk (blk_drew BK112.out)
            have n3_ := Aside0.mk (blk_drew BK113.out)
            have n4_ := Aside0.mk (below_drew1 HB.out)
            clear HO_112000
            clear BK111
            clear BK112
            clear BK113
            clear HB
            have HO_112000 := n0_
            have BK111 := n1_
            have BK112 := n2_
            have BK113 := n3_
            have HB := n4_
            clear n0_ n1_ n2_ n3_ n4_
            have p114 : 0 ≤ (x7_1 : Int) := of_decide_eq_true (by first | (with_reducible assumption) | assumption)
            have q114 : x7_1 < (x112000_1.length : Int) := of_decide_eq_true (by first | (with_reducible assumption) | assumption)
            obtain ⟨ad114, e114, hx114_0, hx114_1, hx114_2, hx114_3⟩ := at_T58 (Kd.V_reads' HO_112000.out).2.2 x7_1 p114 q114
            cases e114
            replace p114 := eq_true p114
            replace q114 := eq_true q114
            refine start_ (n := 8) (S := fun w' => w'.cell? ⟨gb111, 0, none⟩ = some (.slice (some ad114) x112000_1.length co42) ∧ w'.cell? ⟨gb111, 1, none⟩ = some (.int .i64 a0_1) ∧ w'.cell? ⟨gb111, 2, none⟩ = some (.int .i64 x112002_1) ∧ w'.cell? ⟨gb111, 3, none⟩ = some (.int .i64 a0_3) ∧ w'.cell? ⟨gb112, 0, none⟩ = some (.int .i64 a1_0) ∧ w'.cell? ⟨gb112, 1, none⟩ = some (.int .i64 a1_1) ∧ w'.cell? ⟨gb112, 2, none⟩ = some (.int .i64 a1_2) ∧ w'.cell? (ad114.add ((x7_1).toNat * 4)) = some (.int .i64 ((rd_T58 x112000_1 x7_1).f0.f0)) ∧ w'.cell? ⟨(ad114.add ((x7_1).toNat * 4)).block, (ad114.add ((x7_1).toNat * 4)).off + 1, none⟩ = some (.int .i64 ((rd_T58 x112000_1 x7_1).f0.f1)) ∧ w'.cell? ⟨(ad114.add ((x7_1).toNat * 4)).block, (ad114.add ((x7_1).toNat * 4)).off + 2, none⟩ = some (.int .i64 ((rd_T58 x112000_1 x7_1).f0.f2)) ∧ w'.cell? ⟨(ad114.add ((x7_1).toNat * 4)).block, (ad114.add ((x7_1).toNat * 4)).off + 3, none⟩ = some (.string ((rd_T58 x112000_1 x7_1).f1))) (ds := []) #[false, false, false, false, false, false, false, false] (by kernel_rfl) rfl rfl ⟨(blk_cell BK111.out 0).trans rfl, (blk_cell BK111.out 1).trans rfl, (blk_cell BK111.out 2).trans rfl, (blk_cell BK111.out 3).trans rfl, (blk_cell BK112.out 0).trans rfl, (blk_cell BK112.out 1).trans rfl, (blk_cell BK112.out 2).trans rfl, hx114_0, hx114_1, hx114_2, hx114_3⟩ (fun hHeld => ?_); refine with_tabW revetmentref35_Get.tab4 revetmentref35_Get.bits4 (fun HT_ HW_ => ?_)
            generalize wr.drew = w43 at HO_112000 BK111 BK112 BK113 HB hx114_0 hx114_1 hx114_2 hx114_3 hHeld ⊢
            refine pure_ (i := 0) (N := some 16) (v := ?_) (a' := ?_) #[true, false, false, false, false, false, false, false] rfl rfl (any_of HT_.out (by kernel_rfl)) (fun _ _ _ h => h) (Or.inl ⟨by rfl, ?_⟩) ?_ ?_
            rotate_left
            · intro w'
              go_simp
              with_reducible rfl
            rotate_left
            · simp only [Act.put, List.setIfInBounds_toArray, List.set_cons_zero, List.set_cons_succ, i64_w, i32_w]
              rfl
            refine pure_ (i := 2) (N := some 18) (v := ?_) (a' := ?_) #[true, false, true, false, false, false, false, false] rfl rfl (any_of HT_.out (by kernel_rfl)) (fun _ _ _ h => h) (Or.inl ⟨by rfl, ?_⟩) ?_ ?_
            rotate_left
            · intro w'
              go_simp
              with_reducible rfl
            rotate_left
            · simp only [Act.put, List.setIfInBounds_toArray, List.set_cons_zero, List.set_cons_succ, i64_w, i32_w]
              rfl
            refine take_ (i := 1) (N := some 17) (v := ?_) (a' := ?_) #[true, true, true, false, false, false, false, false] rfl rfl (take_ofW HT_.out HW_.out (by kernel_rfl)) (fun _ _ _ h => h) (Or.inl ⟨by rfl, ?_⟩) hHeld ?_ ?_
            rotate_left
            · rintro w' ⟨s0, s1, s2, s3, s4, s5, s6, s7, s8, s9, s10⟩
              go_simp
              with_reducible rfl
            rotate_left
            · simp only [Act.put, List.setIfInBounds_toArray, List.set_cons_zero, List.set_cons_succ, i64_w, i32_w]
              rfl
            refine pure_ (i := 3) (N := some 19) (v := ?_) (a' := ?_) #[true, true, true, true, false, false, false, false] rfl rfl (any_of HT_.out (by kernel_rfl)) (fun _ _ _ h => h) (Or.inl ⟨by rfl, ?_⟩) ?_ ?_
            rotate_left
            · intro w'
              go_simp
              with_reducible rfl
            rotate_left
            · simp only [Act.put, List.setIfInBounds_toArray, List.set_cons_zero, List.set_cons_succ, i64_w, i32_w]
              rfl
            refine pure_ (i := 4) (N := some 20) (v := ?_) (a' := ?_) #[true, true, true, true, true, false, false, false] rfl rfl (any_of HT_.out (by kernel_rfl)) (fun _ _ _ h => h) (Or.inl ⟨by rfl, ?_⟩) ?_ ?_
            rotate_left
            · intro w'
              go_simp
              with_reducible rfl
            rotate_left
            · simp only [Act.put, List.setIfInBounds_toArray, List.set_cons_zero, List.set_cons_succ, i64_w, i32_w]
              rfl
            refine take_ (i := 5) (N := some 21) (v := ?_) (a' := ?_) #[true, true, true, true, true, true, false, false] rfl rfl (take_ofW HT_.out HW_.out (by kernel_rfl)) (fun _ _ _ h => h) (Or.inl ⟨by rfl, ?_⟩) hHeld ?_ ?_
            rotate_left
            · rintro w' ⟨s0, s1, s2, s3, s4, s5, s6, s7, s8, s9, s10⟩
              go_simp
              with_reducible rfl
            rotate_left
            · simp only [Act.put, List.setIfInBounds_toArray, List.set_cons_zero, List.set_cons_succ, i64_w, i32_w]
              rfl
            refine take_ (i := 6) (N := some 22) (v := ?_) (a' := ?_) #[true, true, true, true, true, true, true, false] rfl rfl (take_ofW HT_.out HW_.out (by kernel_rfl)) (fun _ _ _ h => h) (Or.inl ⟨by rfl, ?_⟩) hHeld ?_ ?_
            rotate_left
            · rintro w' ⟨s0, s1, s2, s3, s4, s5, s6, s7, s8, s9, s10⟩
              go_simp
              with_reducible rfl
            rotate_left
            · simp only [Act.put, List.setIfInBounds_toArray, List.set_cons_zero, List.set_cons_succ, i64_w, i32_w]
              rfl
            refine pure_ (i := 7) (N := some 23) (v := ?_) (a' := ?_) #[true, true, true, true, true, true, true, true] rfl rfl (any_of HT_.out (by kernel_rfl)) (fun _ _ _ h => h) (Or.inl ⟨by rfl, ?_⟩) ?_ ?_
            rotate_left
            · intro w'
              go_simp
              with_reducible rfl
            rotate_left
            · simp only [Act.put, List.setIfInBounds_toArray, List.set_cons_zero, List.set_cons_succ, i64_w, i32_w]
              rfl
            refine done_ (done_of HT_.out (by kernel_rfl)) ?_
            try go_wp2
            go_roundg k1
            case measure => have := HK1.out; omega
            case rel => exact ⟨(wrap64 (x7_1 + 1)), (x112000_1), (x112002_1), (x114001_1), (x114002_1), (x114003_1), (.slice (some ad114) x112000_1.length co42), (by first | rfl | (simp; done) | (simp [*]; done)), H', ⟨by have := HK1.out; omega⟩, ⟨by (with_reducible repeat (first | apply Kd.V_alloc | apply Kd.V_drewN | apply Kd.V_drew)); exact HO_112000.out⟩, ⟨by (with_reducible repeat (first | refine blk_drewN ?_ _ | refine blk_drew ?_ | refine blk_alloc ?_ _)); exact BK111.out⟩, ⟨by (with_reducible repeat (first | refine blk_drewN ?_ _ | refine blk_drew ?_ | refine blk_alloc ?_ _)); exact BK112.out⟩, ⟨by (with_reducible repeat (first | refine blk_drewN ?_ _ | refine blk_drew ?_ | refine blk_alloc ?_ _)); exact BK113.out⟩, ⟨by repeat (first | (with_reducible first | exact HB.out | apply below_alloc | apply pw_below_drewN | apply below_drew1 | refine below_set ?_ GE111.out | refine below_set ?_ GE112.out | refine below_set ?_ GE113.out) | exact HB.out)⟩⟩
        · rw [if_neg c7] at H
          exact absurd H (by simp)
      · rw [if_neg c6] at H
        have c6b0 : decide (x7_1 < (x112000_1.length : Int)) = false := decide_eq_false c6
        clear c6
        simp only [Option.some.injEq, Prod.mk.injEq] at H
        obtain ⟨rfl, rfl, rfl, rfl, rfl, rfl⟩ := H
        have hnb44 := NB111_112.out
        have hnc44 := NB112_111.out
        have hnb45 := NB111_113.out
        have hnc45 := NB113_111.out
        have hcz46_0 : wr.cell? ⟨gb111, 0, none⟩ = some (u112000) := (blk_cell BK111.out 0).trans rfl
        have hcz46_1 : wr.cell? ⟨gb111, 1, none⟩ = some (.int .i64 a0_1) := (blk_cell BK111.out 1).trans rfl
        have hcz46_2 : wr.cell? ⟨gb111, 2, none⟩ = some (.int .i64 x112002_1) := (blk_cell BK111.out 2).trans rfl
        have hcz46_3 : wr.cell? ⟨gb111, 3, none⟩ = some (.int .i64 a0_3) := (blk_cell BK111.out 3).trans rfl
        have hfz46_0 := blk_frozen BK111.out 0
        have hfz46_1 := blk_frozen BK111.out 1
        have hfz46_2 := blk_frozen BK111.out 2
        have hfz46_3 := blk_frozen BK111.out 3
        obtain ⟨Ao47, co47, eo47⟩ := Kd.V_slice HO_112000.out
        subst eo47
        have hnb48 := NB113_112.out
        have hnc48 := NB112_113.out
        have hcz49_0 : wr.cell? ⟨gb113, 0, none⟩ = some (.slice none 0 0) := (blk_cell BK113.out 0).trans rfl
        have hcz49_1 : wr.cell? ⟨gb113, 1, none⟩ = some (.int .i64 x114001_1) := (blk_cell BK113.out 1).trans rfl
        have hcz49_2 : wr.cell? ⟨gb113, 2, none⟩ = some (.int .i64 x114002_1) := (blk_cell BK113.out 2).trans rfl
        have hcz49_3 : wr.cell? ⟨gb113, 3, none⟩ = some (.int .i64 x114003_1) := (blk_cell BK113.out 3).trans rfl
        have hfz49_0 := blk_frozen BK113.out 0
        have hfz49_1 := blk_frozen BK113.out 1
        have hfz49_2 := blk_frozen BK113.out 2
        have hfz49_3 := blk_frozen BK113.out 3
        go_wp2
        refine bodyPost_ret (results_ctt rfl _ _ gb113 45 #[.slice Ao47 x112000_1.length co47, .int .i64 a0_1, .int .i64 x112002_1, .int .i64 (wrap64 (a0_3 + 1))] (0, 0) _ rfl (by (with_reducible repeat (first | refine blk_drewN ?_ _ | refine blk_drew ?_ | refine blk_alloc ?_ _)); refine blk_put (cs := #[.slice Ao47 x112000_1.length co47, .int .i64 a0_1, .int .i64 x112002_1, .int .i64 x114003_1]) ?_ 3 _ rfl; (with_reducible repeat (first | refine blk_drewN ?_ _ | refine blk_drew ?_ | refine blk_alloc ?_ _)); refine blk_put (cs := #[.slice Ao47 x112000_1.length co47, .int .i64 a0_1, .int .i64 x114002_1, .int .i64 x114003_1]) ?_ 2 _ rfl; (with_reducible repeat (first | refine blk_drewN ?_ _ | refine blk_drew ?_ | refine blk_alloc ?_ _)); refine blk_put (cs := #[.slice Ao47 x112000_1.length co47, .int .i64 x114001_1, .int .i64 x114002_1, .int .i64 x114003_1]) ?_ 1 _ rfl; (with_reducible repeat (first | refine blk_drewN ?_ _ | refine blk_drew ?_ | refine blk_alloc ?_ _)); refine blk_put (cs := #[.slice none 0 0, .int .i64 x114001_1, .int .i64 x114002_1, .int .i64 x114003_1]) ?_ 0 _ rfl; (with_reducible repeat (first | refine blk_drewN ?_ _ | refine blk_drew ?_ | refine blk_alloc ?_ _)); refine blk_far ?_ NB113_111.out _; (with_reducible repeat (first | refine blk_drewN ?_ _ | refine blk_drew ?_ | refine blk_alloc ?_ _)); exact BK113.out) Try.underlying45 rfl (by kernel_rfl)) rfl ?_
        exact ⟨_, by first | rfl | (simp [errW_none, errW_some] <;> rfl) | (simp [*, errW_none, errW_some] <;> rfl), by (with_reducible repeat (first | apply Kd.V_alloc | apply Kd.V_drewN | apply Kd.V_drew)); exact Kd.V_mono (Kd.V_far (p := ⟨gb113, 3, none⟩) (Kd.V_far (p := ⟨gb113, 2, none⟩) (Kd.V_far (p := ⟨gb113, 1, none⟩) (Kd.V_far (p := ⟨gb113, 0, none⟩) (Kd.V_far (p := ⟨gb111, 3, none⟩) (Kd.V_mono (Kd.V_mono HO_112000.out (fun k_ hk => (⟨hk, hk.2.1⟩ : _ ∧ k_ ≠ gb111))) (fun k_ hk => (⟨hk, hk.1.2.2.2⟩ : _ ∧ k_ ≠ gb113))) (fun _ hk => hk.1.2) (.int .i64 (wrap64 (a0_3 + 1)))) (fun _ hk => hk.2) (.slice Ao47 x112000_1.length co47)) (fun _ hk => hk.2) (.int .i64 a0_1)) (fun _ hk => hk.2) (.int .i64 x112002_1)) (fun _ hk => hk.2) (.int .i64 (wrap64 (a0_3 + 1)))) (fun _ hk => hk.1.1.1), by repeat (first | (with_reducible first | exact HB.out | apply below_alloc | apply pw_below_drewN | apply below_drew1 | refine below_set ?_ GE111.out | refine below_set ?_ GE112.out | refine below_set ?_ GE113.out) | exact HB.out)⟩

end Go.Proofs.Ytlhmpmmblnbmbaa.PCachePlays
