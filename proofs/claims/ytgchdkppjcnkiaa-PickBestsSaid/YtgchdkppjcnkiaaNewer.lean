/- Which of two logs is newer: the program's function and the reference's answer alike, by the two logs' numbers alone; the structs are rows of cells under one letter. -/
import Derived.Test.YtgchdkppjcnkiaaPPickBestsx0
import Derived.Laws.Rows
import Derived.Test.YtgchdkppjcnkiaaCells
import Derived.Deep.RegionHeld3
import Derived.Deep.DrawnRows
namespace Go.Proofs.Ytgchdkppjcnkiaa.Newer
open Go.RowKit Go.Proofs.Ytgchdkppjcnkiaa.Cells Go.Proofs.YtgchdkppjcnkiaaW.PrintWords Go.Proofs.YtgchdkppjcnkiaaW.PrintLast Go.Proofs.YtgchdkppjcnkiaaW.PrintMore
theorem size35 : (Try.prog.info? 35).map (·.size) = some 17 := by kernel_rfl
set_option maxHeartbeats 1000000 in
theorem found_c (cs : Array Value) (hs : cs.size = 17) (b : Int) (h16 : cs[16]'(by omega) = .int .i64 b) (w : World) :
    Calls Try.prog 30 #[.agg cs] w fun e w' => e = .returned (.bool (decide (b ≥ 1))) ∧ Below w.heap.size w w' := by
  have hu35 := Try.underlying35
  go_enter Try.func30, Try.ntmps30
  go_wp2
  go_ret
  exact ⟨rfl, (Below.refl _ _).alloc (Nat.le_refl _) _⟩
theorem alloc2 (w : World) (A B : Obj) : ((w.alloc A).alloc B).heap[w.heap.size]? = some A := heap_alloc2_old w A B

theorem cellsof {w : World} {g : Nat} {cs : Array Value} {e s : Int} (h : w.heap[g]? = some (.cells cs 35 (0, 0))) (hs : cs.size = 17) (he : cs[11]'(by omega) = .int .i64 e) (hq : cs[12]'(by omega) = .int .i64 s) :
    w.cell? ⟨g, 11, none⟩ = some (.int .i64 e) ∧ w.cell? ⟨g, 12, none⟩ = some (.int .i64 s) := by
  rw [cell_of_row w g _ _ _ _ h, cell_of_row w g _ _ _ _ h, ← he, ← hq]
  exact ⟨Array.getElem?_eq_getElem _, Array.getElem?_eq_getElem _⟩
/-- which is newer, of numbers alone -/
def nw (b0 e0 s0 b1 e1 s1 : Int) : Bool := if b0 ≥ 1 then (if b1 ≥ 1 then (if e0 = e1 then decide (s0 > s1) else decide (e0 > e1)) else true) else false
section
variable (cs0 cs1 : Array Value) (hs0 : cs0.size = 17) (hs1 : cs1.size = 17) (b0 e0 s0 b1 e1 s1 : Int)
  (h0b : cs0[16]'(by omega) = .int .i64 b0) (h0e : cs0[11]'(by omega) = .int .i64 e0) (h0s : cs0[12]'(by omega) = .int .i64 s0)
  (h1b : cs1[16]'(by omega) = .int .i64 b1) (h1e : cs1[11]'(by omega) = .int .i64 e1) (h1s : cs1[12]'(by omega) = .int .i64 s1)
include hs0 hs1 h0b h0e h0s h1b h1e h1s
set_option maxHeartbeats 4000000 in
theorem newer_c (w : World) : Calls Try.prog 15 #[.agg cs0, .agg cs1] w fun e w' => e = .returned (.bool (nw b0 e0 s0 b1 e1 s1)) ∧ Below w.heap.size w w' := by
  have hu35 := Try.underlying35
  by_cases c0 : b0 ≥ 1
  · have d0 : decide (b0 ≥ 1) = true := decide_eq_true c0
    by_cases c1 : b1 ≥ 1
    · have d1 : decide (b1 ≥ 1) = true := decide_eq_true c1
      by_cases ce : e0 = e1
      · have ce1 : (e0 == e1) = true := beq_iff_eq.mpr ce
        have ce2 : (e0 != e1) = false := bne_eq_false_iff_eq.mpr ce
        have en : nw b0 e0 s0 b1 e1 s1 = decide (s0 > s1) := by unfold nw; rw [if_pos c0, if_pos c1, if_pos ce]
        rw [en]
        clear c0 c1 ce en
        go_enter Try.func15, Try.ntmps15
        go_wp2_with (first | ((with_reducible refine gate_dst (N := 6) rfl ?_); refine wpList_load_row rfl 35 _ rfl _ rfl 35 _ (0, 0) _ (heap_alloc2_old _ _ _) Try.underlying35 rfl (by rw [hs0]; exact size35) ?_) | ((with_reducible refine gate_dst (N := 10) rfl ?_); refine wpList_load_row rfl 35 _ rfl _ rfl 35 _ (0, 0) _ k1 Try.underlying35 rfl (by rw [hs1]; exact size35) ?_) | (go_at_call 30; (with_reducible refine (found_c _ hs0 b0 h0b _).mono ?_); rintro e w2 ⟨rfl, hb2⟩; rw [d0]; have k0 : w2.heap[w.heap.size]? = some (.cells cs0 35 (0, 0)) := (hb2.block _ (by simp; omega)).trans (heap_alloc2_old _ _ _); have k1 : w2.heap[w.heap.size + 1]? = some (.cells cs1 35 (0, 0)) := (hb2.block _ (by simp)).trans (heap_alloc2_new _ _ _); have z2 := hb2.size; simp at z2) | (go_at_call 30; (with_reducible refine (found_c _ hs1 b1 h1b _).mono ?_); rintro e w3 ⟨rfl, hb3⟩; rw [d1]; have m0 : w3.heap[w.heap.size]? = some (.cells cs0 35 (0, 0)) := (hb3.block _ (by omega)).trans k0; have m1 : w3.heap[w.heap.size + 1]? = some (.cells cs1 35 (0, 0)) := (hb3.block _ (by omega)).trans k1; have q0 := cellsof m0 hs0 h0e h0s; have q1 := cellsof m1 hs1 h1e h1s; obtain ⟨q01, q02⟩ := q0; obtain ⟨q11, q12⟩ := q1))
        go_ret
        exact ⟨rfl, ((((Below.refl _ _).alloc (Nat.le_refl _) _).alloc (by simp) _).trans (hb2.mono (by simp; omega))).trans (hb3.mono (by omega))⟩
      · have ce1 : (e0 == e1) = false := beq_eq_false_iff_ne.mpr ce
        have ce2 : (e0 != e1) = true := bne_iff_ne.mpr ce
        have en : nw b0 e0 s0 b1 e1 s1 = decide (e0 > e1) := by unfold nw; rw [if_pos c0, if_pos c1, if_neg ce]
        rw [en]
        clear c0 c1 ce en
        go_enter Try.func15, Try.ntmps15
        go_wp2_with (first | ((with_reducible refine gate_dst (N := 6) rfl ?_); refine wpList_load_row rfl 35 _ rfl _ rfl 35 _ (0, 0) _ (heap_alloc2_old _ _ _) Try.underlying35 rfl (by rw [hs0]; exact size35) ?_) | ((with_reducible refine gate_dst (N := 10) rfl ?_); refine wpList_load_row rfl 35 _ rfl _ rfl 35 _ (0, 0) _ k1 Try.underlying35 rfl (by rw [hs1]; exact size35) ?_) | (go_at_call 30; (with_reducible refine (found_c _ hs0 b0 h0b _).mono ?_); rintro e w2 ⟨rfl, hb2⟩; rw [d0]; have k0 : w2.heap[w.heap.size]? = some (.cells cs0 35 (0, 0)) := (hb2.block _ (by simp; omega)).trans (heap_alloc2_old _ _ _); have k1 : w2.heap[w.heap.size + 1]? = some (.cells cs1 35 (0, 0)) := (hb2.block _ (by simp)).trans (heap_alloc2_new _ _ _); have z2 := hb2.size; simp at z2) | (go_at_call 30; (with_reducible refine (found_c _ hs1 b1 h1b _).mono ?_); rintro e w3 ⟨rfl, hb3⟩; rw [d1]; have m0 : w3.heap[w.heap.size]? = some (.cells cs0 35 (0, 0)) := (hb3.block _ (by omega)).trans k0; have m1 : w3.heap[w.heap.size + 1]? = some (.cells cs1 35 (0, 0)) := (hb3.block _ (by omega)).trans k1; have q0 := cellsof m0 hs0 h0e h0s; have q1 := cellsof m1 hs1 h1e h1s; obtain ⟨q01, q02⟩ := q0; obtain ⟨q11, q12⟩ := q1))
        go_ret
        exact ⟨rfl, ((((Below.refl _ _).alloc (Nat.le_refl _) _).alloc (by simp) _).trans (hb2.mono (by simp; omega))).trans (hb3.mono (by omega))⟩
    · have d1 : decide (b1 ≥ 1) = false := decide_eq_false c1
      have en : nw b0 e0 s0 b1 e1 s1 = true := by unfold nw; rw [if_pos c0, if_neg c1]
      rw [en]
      clear c0 c1 en
      go_enter Try.func15, Try.ntmps15
      go_wp2_with (first | ((with_reducible refine gate_dst (N := 6) rfl ?_); refine wpList_load_row rfl 35 _ rfl _ rfl 35 _ (0, 0) _ (heap_alloc2_old _ _ _) Try.underlying35 rfl (by rw [hs0]; exact size35) ?_) | ((with_reducible refine gate_dst (N := 10) rfl ?_); refine wpList_load_row rfl 35 _ rfl _ rfl 35 _ (0, 0) _ k1 Try.underlying35 rfl (by rw [hs1]; exact size35) ?_) | (go_at_call 30; (with_reducible refine (found_c _ hs0 b0 h0b _).mono ?_); rintro e w2 ⟨rfl, hb2⟩; rw [d0]; have k0 : w2.heap[w.heap.size]? = some (.cells cs0 35 (0, 0)) := (hb2.block _ (by simp; omega)).trans (heap_alloc2_old _ _ _); have k1 : w2.heap[w.heap.size + 1]? = some (.cells cs1 35 (0, 0)) := (hb2.block _ (by simp)).trans (heap_alloc2_new _ _ _); have z2 := hb2.size; simp at z2) | (go_at_call 30; (with_reducible refine (found_c _ hs1 b1 h1b _).mono ?_); rintro e w3 ⟨rfl, hb3⟩; rw [d1]; have m0 : w3.heap[w.heap.size]? = some (.cells cs0 35 (0, 0)) := (hb3.block _ (by omega)).trans k0; have m1 : w3.heap[w.heap.size + 1]? = some (.cells cs1 35 (0, 0)) := (hb3.block _ (by omega)).trans k1; have q0 := cellsof m0 hs0 h0e h0s; have q1 := cellsof m1 hs1 h1e h1s; obtain ⟨q01, q02⟩ := q0; obtain ⟨q11, q12⟩ := q1))
      go_ret
      exact ⟨rfl, ((((Below.refl _ _).alloc (Nat.le_refl _) _).alloc (by simp) _).trans (hb2.mono (by simp; omega))).trans (hb3.mono (by omega))⟩
  · have d0 : decide (b0 ≥ 1) = false := decide_eq_false c0
    have en : nw b0 e0 s0 b1 e1 s1 = false := by unfold nw; rw [if_neg c0]
    rw [en]
    clear c0 en
    go_enter Try.func15, Try.ntmps15
    go_wp2_with (first | ((with_reducible refine gate_dst (N := 6) rfl ?_); refine wpList_load_row rfl 35 _ rfl _ rfl 35 _ (0, 0) _ (heap_alloc2_old _ _ _) Try.underlying35 rfl (by rw [hs0]; exact size35) ?_) | (go_at_call 30; (with_reducible refine (found_c _ hs0 b0 h0b _).mono ?_); rintro e w2 ⟨rfl, hb2⟩; rw [d0]; have k0 : w2.heap[w.heap.size]? = some (.cells cs0 35 (0, 0)) := (hb2.block _ (by simp; omega)).trans (heap_alloc2_old _ _ _); have k1 : w2.heap[w.heap.size + 1]? = some (.cells cs1 35 (0, 0)) := (hb2.block _ (by simp)).trans (heap_alloc2_new _ _ _); have z2 := hb2.size; simp at z2))
    go_ret
    exact ⟨rfl, (((Below.refl _ _).alloc (Nat.le_refl _) _).alloc (by simp) _).trans (hb2.mono (by simp; omega))⟩
set_option maxHeartbeats 4000000 in
theorem rnewer_c (w : World) : Calls Try.prog 16 #[.agg cs0, .agg cs1] w fun e w' => e = .returned (.bool (nw b0 e0 s0 b1 e1 s1)) ∧ Below w.heap.size w w' := by
  have hu35 := Try.underlying35
  have h0c : cs0[16] = .int .i64 b0 := h0b
  have h1c : cs1[16] = .int .i64 b1 := h1b
  by_cases c0 : b0 ≥ 1
  · have d0 : decide (b0 < 1) = false := decide_eq_false (by omega)
    by_cases c1 : b1 ≥ 1
    · have d1 : decide (b1 < 1) = false := decide_eq_false (by omega)
      by_cases cg : e0 > e1
      · have cg1 : decide (e0 > e1) = true := decide_eq_true cg
        have cg2 : decide (e1 < e0) = true := decide_eq_true cg
        have en : nw b0 e0 s0 b1 e1 s1 = true := by unfold nw; rw [if_pos c0, if_pos c1, if_neg (by omega)]; exact cg1
        rw [en]
        clear c0 c1 cg en
        go_enter Try.func16, Try.ntmps16
        go_wp2
        go_ret
        exact ⟨rfl, ((Below.refl _ _).alloc (Nat.le_refl _) _).alloc (by simp) _⟩
      · have cg1 : decide (e0 > e1) = false := decide_eq_false cg
        have cg2 : decide (e1 < e0) = false := decide_eq_false cg
        by_cases ce : e0 = e1
        · have ce1 : (e0 == e1) = true := beq_iff_eq.mpr ce
          have en : nw b0 e0 s0 b1 e1 s1 = decide (s0 > s1) := by unfold nw; rw [if_pos c0, if_pos c1, if_pos ce]
          rw [en]
          clear c0 c1 ce cg en
          go_enter Try.func16, Try.ntmps16
          go_wp2
          go_ret
          exact ⟨rfl, ((Below.refl _ _).alloc (Nat.le_refl _) _).alloc (by simp) _⟩
        · have ce1 : (e0 == e1) = false := beq_eq_false_iff_ne.mpr ce
          have en : nw b0 e0 s0 b1 e1 s1 = false := by unfold nw; rw [if_pos c0, if_pos c1, if_neg ce]; exact cg1
          rw [en]
          clear c0 c1 ce cg en
          go_enter Try.func16, Try.ntmps16
          go_wp2
          go_ret
          exact ⟨rfl, ((Below.refl _ _).alloc (Nat.le_refl _) _).alloc (by simp) _⟩
    · have d1 : decide (b1 < 1) = true := decide_eq_true (by omega)
      have en : nw b0 e0 s0 b1 e1 s1 = true := by unfold nw; rw [if_pos c0, if_neg c1]
      rw [en]
      clear c0 c1 en
      go_enter Try.func16, Try.ntmps16
      go_wp2
      go_ret
      exact ⟨rfl, ((Below.refl _ _).alloc (Nat.le_refl _) _).alloc (by simp) _⟩
  · have d0 : decide (b0 < 1) = true := decide_eq_true (by omega)
    have en : nw b0 e0 s0 b1 e1 s1 = false := by unfold nw; rw [if_neg c0]
    rw [en]
    clear c0 en
    go_enter Try.func16, Try.ntmps16
    go_wp2
    go_ret
    exact ⟨rfl, ((Below.refl _ _).alloc (Nat.le_refl _) _).alloc (by simp) _⟩
end
end Go.Proofs.Ytgchdkppjcnkiaa.Newer
