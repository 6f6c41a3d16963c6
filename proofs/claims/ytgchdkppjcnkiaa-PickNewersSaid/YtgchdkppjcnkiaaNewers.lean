/- The statement on which of any two logs is newer: walked, where the page's example holds. -/
import Derived.Test.YtgchdkppjcnkiaaNewer
import Derived.Test.YtgchdkppjcnkiaaLive
import Derived.Test.YtgchdkppjcnkiaaFlow
namespace Go.Proofs.Ytgchdkppjcnkiaa.Newer
open Go.RowKit Go.Proofs.Ytgchdkppjcnkiaa.Cells Go.Proofs.YtgchdkppjcnkiaaW.PrintWords Go.Proofs.YtgchdkppjcnkiaaW.PrintLast Go.Proofs.YtgchdkppjcnkiaaW.PrintMore
set_option linter.unusedSimpArgs false
set_option linter.unusedVariables false
theorem nw_anti (a b c d e f : Int) (h : nw a b c d e f = true) : nw d e f a b c = false := by
  unfold nw at *
  by_cases h1 : a ≥ 1 <;> by_cases h2 : d ≥ 1 <;> simp [h1, h2] at h ⊢
  by_cases h3 : b = e
  · simp [h3] at h ⊢; omega
  · simp [h3, Ne.symm h3] at h ⊢; omega
theorem nw_trans (a b c d e f g h i : Int) (h1 : nw a b c d e f = true) (h2 : nw d e f g h i = true) : nw a b c g h i = true := by
  unfold nw at *
  by_cases k1 : a ≥ 1 <;> by_cases k2 : d ≥ 1 <;> by_cases k3 : g ≥ 1 <;> simp [k1, k2, k3] at h1 h2 ⊢
  by_cases k4 : b = e
  · by_cases k5 : e = h
    · simp [k4, k5] at h1 h2 ⊢; omega
    · simp [k4, k5] at h1 h2 ⊢; omega
  · by_cases k5 : e = h
    · subst k5; simp [k4] at h1 h2 ⊢; omega
    · by_cases k6 : b = h
      · subst k6; simp [k4, k5] at h1 h2; omega
      · simp [k4, k5, k6] at h1 h2 ⊢; omega
section
variable (cs0 cs1 cs2 : Array Value) (hs0 : cs0.size = 17) (hs1 : cs1.size = 17) (hs2 : cs2.size = 17) (b0 e0 s0 b1 e1 s1 b2 e2 s2 : Int)
  (h0b : cs0[16]'(by omega) = .int .i64 b0) (h0e : cs0[11]'(by omega) = .int .i64 e0) (h0s : cs0[12]'(by omega) = .int .i64 s0)
  (h1b : cs1[16]'(by omega) = .int .i64 b1) (h1e : cs1[11]'(by omega) = .int .i64 e1) (h1s : cs1[12]'(by omega) = .int .i64 s1)
  (h2b : cs2[16]'(by omega) = .int .i64 b2) (h2e : cs2[11]'(by omega) = .int .i64 e2) (h2s : cs2[12]'(by omega) = .int .i64 s2)
  (live : ∀ w, Calls Try.prog 17 #[] w fun e w' => e = .returned (.bool true) ∧ Below w.heap.size w w')
include hs0 hs1 h0b h0e h0s h1b h1e h1s hs2 h2b h2e h2s live
set_option maxHeartbeats 4000000 in
theorem law_t (w : World) (hx1 : nw b0 e0 s0 b1 e1 s1 = true) (hy1 : nw b1 e1 s1 b2 e2 s2 = true) : Calls Try.prog 4 #[.agg cs0, .agg cs1, .agg cs2] w fun e w' => e = .returned (.bool true) ∧ Below w.heap.size w w' := by
  have hu35 := Try.underlying35
  have hz1 := nw_trans _ _ _ _ _ _ _ _ _ hx1 hy1
  have ht := nw_anti _ _ _ _ _ _ hx1
  go_enter Try.func4, Try.ntmps4
  go_wp2_with (first | ((with_reducible refine gate_dst (N := 8) rfl ?_); refine wantL (by rfl) (Flow.val_run (run_load_row (k := 3) (cs := cs0) rfl (by rfl) Try.underlying35 rfl (by rw [hs0]; exact size35) (by first | assumption | exact al0 _ _ _ _ | exact al1 _ _ _ _ | exact al2 _ _ _ _)) ?_)) | ((with_reducible refine gate_dst (N := 9) rfl ?_); refine wantL (by rfl) (Flow.val_run (run_load_row (k := 4) (cs := cs1) rfl (by rfl) Try.underlying35 rfl (by rw [hs1]; exact size35) (by first | assumption | exact al0 _ _ _ _ | exact al1 _ _ _ _ | exact al2 _ _ _ _)) ?_)) | ((with_reducible refine gate_dst (N := 13) rfl ?_); refine wantL (by rfl) (Flow.val_run (run_load_row (k := 4) (cs := cs1) rfl (by rfl) Try.underlying35 rfl (by rw [hs1]; exact size35) (by first | assumption | exact al0 _ _ _ _ | exact al1 _ _ _ _ | exact al2 _ _ _ _)) ?_)) | ((with_reducible refine gate_dst (N := 14) rfl ?_); refine wantL (by rfl) (Flow.val_run (run_load_row (k := 5) (cs := cs2) rfl (by rfl) Try.underlying35 rfl (by rw [hs2]; exact size35) (by first | assumption | exact al0 _ _ _ _ | exact al1 _ _ _ _ | exact al2 _ _ _ _)) ?_)) | ((with_reducible refine gate_dst (N := 19) rfl ?_); refine wantL (by rfl) (Flow.val_run (run_load_row (k := 3) (cs := cs0) rfl (by rfl) Try.underlying35 rfl (by rw [hs0]; exact size35) (by first | assumption | exact al0 _ _ _ _ | exact al1 _ _ _ _ | exact al2 _ _ _ _)) ?_)) | ((with_reducible refine gate_dst (N := 20) rfl ?_); refine wantL (by rfl) (Flow.val_run (run_load_row (k := 5) (cs := cs2) rfl (by rfl) Try.underlying35 rfl (by rw [hs2]; exact size35) (by first | assumption | exact al0 _ _ _ _ | exact al1 _ _ _ _ | exact al2 _ _ _ _)) ?_)) | (go_at_call 15; (with_reducible refine (newer_c cs0 cs1 hs0 hs1 b0 e0 s0 b1 e1 s1 h0b h0e h0s h1b h1e h1s _).mono ?_); rintro e w1 ⟨rfl, hb1⟩; rw [hx1]; have m0 : w1.heap[w.heap.size]? = some (.cells cs0 35 (0, 0)) := (hb1.block _ (by first | (simp; done) | (simp; omega))).trans (al0 _ _ _ _); have m1 : w1.heap[w.heap.size + 1]? = some (.cells cs1 35 (0, 0)) := (hb1.block _ (by first | (simp; done) | (simp; omega))).trans (al1 _ _ _ _); have m2 : w1.heap[w.heap.size + 2]? = some (.cells cs2 35 (0, 0)) := (hb1.block _ (by first | (simp; done) | (simp; omega))).trans (al2 _ _ _ _); have HB := Aside0.mk ((((Below.refl _ _).alloc (Nat.le_refl _) _ |>.alloc (by first | (simp; done) | (simp; omega)) _ |>.alloc (by first | (simp; done) | (simp; omega)) _).trans (hb1.mono (by first | (simp; done) | (simp; omega))) : Below w.heap.size w w1)); clear hb1) | (go_at_call 15; (with_reducible refine (newer_c cs1 cs2 hs1 hs2 b1 e1 s1 b2 e2 s2 h1b h1e h1s h2b h2e h2s _).mono ?_); rintro e w1 ⟨rfl, hb1⟩; rw [hy1]; have n0 := blk_below m0 hb1; have n1 := blk_below m1 hb1; have n2 := blk_below m2 hb1; clear m0 m1 m2; have m0 := n0; have m1 := n1; have m2 := n2; clear n0 n1 n2; have HB2 := Aside0.mk (below_step HB.out hb1); clear HB; have HB := HB2; clear HB2; clear hb1) | (go_at_call 15; (with_reducible refine (newer_c cs0 cs2 hs0 hs2 b0 e0 s0 b2 e2 s2 h0b h0e h0s h2b h2e h2s _).mono ?_); rintro e w1 ⟨rfl, hb1⟩; rw [hz1]; have n0 := blk_below m0 hb1; have n1 := blk_below m1 hb1; have n2 := blk_below m2 hb1; clear m0 m1 m2; have m0 := n0; have m1 := n1; have m2 := n2; clear n0 n1 n2; have HB2 := Aside0.mk (below_step HB.out hb1); clear HB; have HB := HB2; clear HB2; clear hb1))
  refine Flow.flowT (E := fun u v => Below u.heap.size u v) [(some 23, []), (some 24, []), (some 25, [0, 1]), (some 26, []), (some 27, []), (some 28, [3, 4, 2]), (some 29, [2, 5]), (some 30, [6, 5]), (some 31, [7]), (some 32, [7]), (some 33, [8, 9, 7, 7]), (some 34, [10, 10, 7]), (some 35, [11]), (some 36, [11]), (some 37, [12, 13, 11, 11]), (some 38, [11, 14, 7]), (some 39, [15, 7]), (some 40, [7, 16]), (some 41, [17, 14]), (some 42, [18]), (some 43, [18, 19]), (some 44, [20, 18]), (some 45, [21, 21]), (some 46, [21, 22]), (some 6, [23, 22, 0, 1, 2, 3, 4, 5, 6, 7, 8, 9, 10, 11, 12, 13, 14, 15, 16, 17, 18, 19, 20, 21, 22, 23])] (fun i v _ => match i with | 0 => v = (.agg cs0) | 1 => v = (.agg cs1) | 2 => v = (.bool true) | 3 => v = (.agg cs0) | 4 => v = (.agg cs1) | 5 => v = (.bool true) | 6 => v = (.bool true) | 7 => v = (.bool true) | 8 => v = (.agg cs0) | 9 => v = (.agg cs1) | 10 => v = (.bool true) | 11 => v = (.bool true) | 12 => v = (.agg cs1) | 13 => v = (.agg cs0) | 14 => v = (.bool false) | 15 => v = (.bool false) | 16 => v = (.bool true) | 17 => v = (.bool true) | 18 => v = (.bool true) | 19 => v = (.bool true) | 20 => v = (.bool true) | 21 => v = (.bool true) | 22 => v = (.bool true) | 23 => v = (.bool true) | 24 => v = (.bool true) | _ => True) rfl (by kernel_rfl) (by kernel_rfl) (by kernel_rfl) ((Below.refl _ _).drew) (fun _ _ _ h k => h.trans (k.mono h.size)) (fun _ _ _ _ h _ => h) ?_ ?_
  · refine ⟨?_, ?_, ?_, ?_, ?_, ?_, ?_, ?_, ?_, ?_, ?_, ?_, ?_, ?_, ?_, ?_, ?_, ?_, ?_, ?_, ?_, ?_, ?_, ?_, ?_, trivial⟩
    · intro a w' hx hu hd K hK
      have e3 : a.tmps.getD 3 undef = (.pointer (some ⟨w.heap.size, 0, none⟩)) := hu 3 rfl
      refine Flow.want rfl ?_
      exact Flow.val_run (run_load_row rfl e3 Try.underlying35 rfl (by rw [hs0]; exact size35) (blk_below m0 hx)) (hK _ _ (Below.refl _ _) rfl)
    · intro a w' hx hu hd K hK
      have e4 : a.tmps.getD 4 undef = (.pointer (some ⟨w.heap.size + 1, 0, none⟩)) := hu 4 rfl
      refine Flow.want rfl ?_
      exact Flow.val_run (run_load_row rfl e4 Try.underlying35 rfl (by rw [hs1]; exact size35) (blk_below m1 hx)) (hK _ _ (Below.refl _ _) rfl)
    · intro a w' hx hu hd K hK
      have e23 : a.tmps.getD 23 undef = (.agg cs0) := by obtain ⟨_, t, q⟩ := hd 0 (by decide); exact (q 23 rfl).trans t
      have e24 : a.tmps.getD 24 undef = (.agg cs1) := by obtain ⟨_, t, q⟩ := hd 1 (by decide); exact (q 24 rfl).trans t
      refine Flow.want rfl ?_
      refine Flow.val_call rfl Try.func15 (by kernel_rfl) rfl (by simp only [List.map_toArray, List.map_cons, List.map_nil, Act.eval, e23, e24]) (newer_c cs0 cs1 hs0 hs1 b0 e0 s0 b1 e1 s1 h0b h0e h0s h1b h1e h1s w') ?_
      rintro e w2 ⟨rfl, hb2⟩
      rw [hx1]
      exact ⟨_, rfl, hK _ _ hb2 (by rfl)⟩
    · intro a w' hx hu hd K hK
      have e3 : a.tmps.getD 3 undef = (.pointer (some ⟨w.heap.size, 0, none⟩)) := hu 3 rfl
      refine Flow.want rfl ?_
      exact Flow.val_run (run_load_row rfl e3 Try.underlying35 rfl (by rw [hs0]; exact size35) (blk_below m0 hx)) (hK _ _ (Below.refl _ _) rfl)
    · intro a w' hx hu hd K hK
      have e4 : a.tmps.getD 4 undef = (.pointer (some ⟨w.heap.size + 1, 0, none⟩)) := hu 4 rfl
      refine Flow.want rfl ?_
      exact Flow.val_run (run_load_row rfl e4 Try.underlying35 rfl (by rw [hs1]; exact size35) (blk_below m1 hx)) (hK _ _ (Below.refl _ _) rfl)
    · intro a w' hx hu hd K hK
      have e26 : a.tmps.getD 26 undef = (.agg cs0) := by obtain ⟨_, t, q⟩ := hd 3 (by decide); exact (q 26 rfl).trans t
      have e27 : a.tmps.getD 27 undef = (.agg cs1) := by obtain ⟨_, t, q⟩ := hd 4 (by decide); exact (q 27 rfl).trans t
      refine Flow.want rfl ?_
      refine Flow.val_call rfl Try.func16 (by kernel_rfl) rfl (by simp only [List.map_toArray, List.map_cons, List.map_nil, Act.eval, e26, e27]) (rnewer_c cs0 cs1 hs0 hs1 b0 e0 s0 b1 e1 s1 h0b h0e h0s h1b h1e h1s w') ?_
      rintro e w2 ⟨rfl, hb2⟩
      rw [hx1]
      exact ⟨_, rfl, hK _ _ hb2 (by rfl)⟩
    · intro a w' hx hu hd K hK
      have e25 : a.tmps.getD 25 undef = (.bool true) := by obtain ⟨_, t, q⟩ := hd 2 (by decide); exact (q 25 rfl).trans t
      have e28 : a.tmps.getD 28 undef = (.bool true) := by obtain ⟨_, t, q⟩ := hd 5 (by decide); exact (q 28 rfl).trans t
      refine Flow.want rfl ?_
      exact Flow.val_run (by unfold execOp; simp only [Act.eval, e25, e28]; rfl) (hK _ _ (Below.refl _ _) rfl)
    · intro a w' hx hu hd K hK
      have e29 : a.tmps.getD 29 undef = (.bool true) := by obtain ⟨_, t, q⟩ := hd 6 (by decide); exact (q 29 rfl).trans t
      refine Flow.want rfl ?_
      exact Flow.val_move rfl e29 (hK _ _ (Below.refl _ _) rfl)
    · intro a w' hx hu hd K hK
      have e3 : a.tmps.getD 3 undef = (.pointer (some ⟨w.heap.size, 0, none⟩)) := hu 3 rfl
      have e30 : a.tmps.getD 30 undef = (.bool true) := by obtain ⟨_, t, q⟩ := hd 7 (by decide); exact (q 30 rfl).trans t
      refine Flow.want (Flow.want_of (k := 30) rfl e30) ?_
      exact Flow.val_run (run_load_row rfl e3 Try.underlying35 rfl (by rw [hs0]; exact size35) (blk_below m0 hx)) (hK _ _ (Below.refl _ _) rfl)
    · intro a w' hx hu hd K hK
      have e4 : a.tmps.getD 4 undef = (.pointer (some ⟨w.heap.size + 1, 0, none⟩)) := hu 4 rfl
      have e30 : a.tmps.getD 30 undef = (.bool true) := by obtain ⟨_, t, q⟩ := hd 7 (by decide); exact (q 30 rfl).trans t
      refine Flow.want (Flow.want_of (k := 30) rfl e30) ?_
      exact Flow.val_run (run_load_row rfl e4 Try.underlying35 rfl (by rw [hs1]; exact size35) (blk_below m1 hx)) (hK _ _ (Below.refl _ _) rfl)
    · intro a w' hx hu hd K hK
      have e31 : a.tmps.getD 31 undef = (.agg cs0) := by obtain ⟨_, t, q⟩ := hd 8 (by decide); exact (q 31 rfl).trans t
      have e32 : a.tmps.getD 32 undef = (.agg cs1) := by obtain ⟨_, t, q⟩ := hd 9 (by decide); exact (q 32 rfl).trans t
      have e30 : a.tmps.getD 30 undef = (.bool true) := by obtain ⟨_, t, q⟩ := hd 7 (by decide); exact (q 30 rfl).trans t
      refine Flow.want (Flow.want_of (k := 30) rfl e30) ?_
      refine Flow.val_call rfl Try.func15 (by kernel_rfl) rfl (by simp only [List.map_toArray, List.map_cons, List.map_nil, Act.eval, e31, e32]) (newer_c cs0 cs1 hs0 hs1 b0 e0 s0 b1 e1 s1 h0b h0e h0s h1b h1e h1s w') ?_
      rintro e w2 ⟨rfl, hb2⟩
      rw [hx1]
      exact ⟨_, rfl, hK _ _ hb2 (by rfl)⟩
    · intro a w' hx hu hd K hK
      have e33 : a.tmps.getD 33 undef = (.bool true) := by obtain ⟨_, t, q⟩ := hd 10 (by decide); exact (q 33 rfl).trans t
      have e30 : a.tmps.getD 30 undef = (.bool true) := by obtain ⟨_, t, q⟩ := hd 7 (by decide); exact (q 30 rfl).trans t
      refine Flow.want (Flow.want_of (k := 30) rfl e30) ?_
      exact Flow.val_move rfl e33 (hK _ _ (Below.refl _ _) rfl)
    · intro a w' hx hu hd K hK
      have e4 : a.tmps.getD 4 undef = (.pointer (some ⟨w.heap.size + 1, 0, none⟩)) := hu 4 rfl
      have e34 : a.tmps.getD 34 undef = (.bool true) := by obtain ⟨_, t, q⟩ := hd 11 (by decide); exact (q 34 rfl).trans t
      refine Flow.want (Flow.want_of (k := 34) rfl e34) ?_
      exact Flow.val_run (run_load_row rfl e4 Try.underlying35 rfl (by rw [hs1]; exact size35) (blk_below m1 hx)) (hK _ _ (Below.refl _ _) rfl)
    · intro a w' hx hu hd K hK
      have e3 : a.tmps.getD 3 undef = (.pointer (some ⟨w.heap.size, 0, none⟩)) := hu 3 rfl
      have e34 : a.tmps.getD 34 undef = (.bool true) := by obtain ⟨_, t, q⟩ := hd 11 (by decide); exact (q 34 rfl).trans t
      refine Flow.want (Flow.want_of (k := 34) rfl e34) ?_
      exact Flow.val_run (run_load_row rfl e3 Try.underlying35 rfl (by rw [hs0]; exact size35) (blk_below m0 hx)) (hK _ _ (Below.refl _ _) rfl)
    · intro a w' hx hu hd K hK
      have e35 : a.tmps.getD 35 undef = (.agg cs1) := by obtain ⟨_, t, q⟩ := hd 12 (by decide); exact (q 35 rfl).trans t
      have e36 : a.tmps.getD 36 undef = (.agg cs0) := by obtain ⟨_, t, q⟩ := hd 13 (by decide); exact (q 36 rfl).trans t
      have e34 : a.tmps.getD 34 undef = (.bool true) := by obtain ⟨_, t, q⟩ := hd 11 (by decide); exact (q 34 rfl).trans t
      refine Flow.want (Flow.want_of (k := 34) rfl e34) ?_
      refine Flow.val_call rfl Try.func15 (by kernel_rfl) rfl (by simp only [List.map_toArray, List.map_cons, List.map_nil, Act.eval, e35, e36]) (newer_c cs1 cs0 hs1 hs0 b1 e1 s1 b0 e0 s0 h1b h1e h1s h0b h0e h0s w') ?_
      rintro e w2 ⟨rfl, hb2⟩
      rw [ht]
      exact ⟨_, rfl, hK _ _ hb2 (by rfl)⟩
    · intro a w' hx hu hd K hK
      have e34 : a.tmps.getD 34 undef = (.bool true) := by obtain ⟨_, t, q⟩ := hd 11 (by decide); exact (q 34 rfl).trans t
      have e37 : a.tmps.getD 37 undef = (.bool false) := by obtain ⟨_, t, q⟩ := hd 14 (by decide); exact (q 37 rfl).trans t
      have e30 : a.tmps.getD 30 undef = (.bool true) := by obtain ⟨_, t, q⟩ := hd 7 (by decide); exact (q 30 rfl).trans t
      refine Flow.want (Flow.want_of (k := 30) rfl e30) ?_
      exact Flow.val_pick rfl e34 e37 (hK _ _ (Below.refl _ _) rfl)
    · intro a w' hx hu hd K hK
      have e38 : a.tmps.getD 38 undef = (.bool false) := by obtain ⟨_, t, q⟩ := hd 15 (by decide); exact (q 38 rfl).trans t
      have e30 : a.tmps.getD 30 undef = (.bool true) := by obtain ⟨_, t, q⟩ := hd 7 (by decide); exact (q 30 rfl).trans t
      refine Flow.want (Flow.want_of (k := 30) rfl e30) ?_
      exact Flow.val_not rfl e38 (hK _ _ (Below.refl _ _) rfl)
    · intro a w' hx hu hd K hK
      have e30 : a.tmps.getD 30 undef = (.bool true) := by obtain ⟨_, t, q⟩ := hd 7 (by decide); exact (q 30 rfl).trans t
      have e39 : a.tmps.getD 39 undef = (.bool true) := by obtain ⟨_, t, q⟩ := hd 16 (by decide); exact (q 39 rfl).trans t
      refine Flow.want rfl ?_
      exact Flow.val_pick rfl e30 e39 (hK _ _ (Below.refl _ _) rfl)
    · intro a w' hx hu hd K hK
      have e40 : a.tmps.getD 40 undef = (.bool true) := by obtain ⟨_, t, q⟩ := hd 17 (by decide); exact (q 40 rfl).trans t
      refine Flow.want rfl ?_
      exact Flow.val_move rfl e40 (hK _ _ (Below.refl _ _) rfl)
    · intro a w' hx hu hd K hK
      have e7 : a.tmps.getD 7 undef = (.bool true) := hu 7 rfl
      have e41 : a.tmps.getD 41 undef = (.bool true) := by obtain ⟨_, t, q⟩ := hd 18 (by decide); exact (q 41 rfl).trans t
      refine Flow.want (Flow.want_of (k := 41) rfl e41) ?_
      exact Flow.val_move rfl e7 (hK _ _ (Below.refl _ _) rfl)
    · intro a w' hx hu hd K hK
      have e41 : a.tmps.getD 41 undef = (.bool true) := by obtain ⟨_, t, q⟩ := hd 18 (by decide); exact (q 41 rfl).trans t
      have e42 : a.tmps.getD 42 undef = (.bool true) := by obtain ⟨_, t, q⟩ := hd 19 (by decide); exact (q 42 rfl).trans t
      refine Flow.want rfl ?_
      exact Flow.val_pick rfl e41 e42 (hK _ _ (Below.refl _ _) rfl)
    · intro a w' hx hu hd K hK
      have e43 : a.tmps.getD 43 undef = (.bool true) := by obtain ⟨_, t, q⟩ := hd 20 (by decide); exact (q 43 rfl).trans t
      refine Flow.want rfl ?_
      exact Flow.val_move rfl e43 (hK _ _ (Below.refl _ _) rfl)
    · intro a w' hx hu hd K hK
      have e44 : a.tmps.getD 44 undef = (.bool true) := by obtain ⟨_, t, q⟩ := hd 21 (by decide); exact (q 44 rfl).trans t
      refine Flow.want (Flow.want_of (k := 44) rfl e44) ?_
      refine Flow.val_call rfl Try.func17 (by kernel_rfl) rfl (by simp only [List.map_toArray, List.map_cons, List.map_nil, Act.eval]) (live w') ?_
      rintro e w2 ⟨rfl, hb2⟩
      exact ⟨_, rfl, hK _ _ hb2 (by rfl)⟩
    · intro a w' hx hu hd K hK
      have e44 : a.tmps.getD 44 undef = (.bool true) := by obtain ⟨_, t, q⟩ := hd 21 (by decide); exact (q 44 rfl).trans t
      have e45 : a.tmps.getD 45 undef = (.bool true) := by obtain ⟨_, t, q⟩ := hd 22 (by decide); exact (q 45 rfl).trans t
      refine Flow.want rfl ?_
      exact Flow.val_pick rfl e44 e45 (hK _ _ (Below.refl _ _) rfl)
    · intro a w' hx hu hd K hK
      have e46 : a.tmps.getD 46 undef = (.bool true) := by obtain ⟨_, t, q⟩ := hd 23 (by decide); exact (q 46 rfl).trans t
      refine Flow.want rfl ?_
      exact Flow.val_assign rfl e46 (hK _ _ (Below.refl _ _) rfl)
  · intro vs w' hb hT
    have v0 : vs 0 = (.agg cs0) := hT 0 (by decide)
    have v1 : vs 1 = (.agg cs1) := hT 1 (by decide)
    have v2 : vs 2 = (.bool true) := hT 2 (by decide)
    have v3 : vs 3 = (.agg cs0) := hT 3 (by decide)
    have v4 : vs 4 = (.agg cs1) := hT 4 (by decide)
    have v5 : vs 5 = (.bool true) := hT 5 (by decide)
    have v6 : vs 6 = (.bool true) := hT 6 (by decide)
    have v7 : vs 7 = (.bool true) := hT 7 (by decide)
    have v8 : vs 8 = (.agg cs0) := hT 8 (by decide)
    have v9 : vs 9 = (.agg cs1) := hT 9 (by decide)
    have v10 : vs 10 = (.bool true) := hT 10 (by decide)
    have v11 : vs 11 = (.bool true) := hT 11 (by decide)
    have v12 : vs 12 = (.agg cs1) := hT 12 (by decide)
    have v13 : vs 13 = (.agg cs0) := hT 13 (by decide)
    have v14 : vs 14 = (.bool false) := hT 14 (by decide)
    have v15 : vs 15 = (.bool false) := hT 15 (by decide)
    have v16 : vs 16 = (.bool true) := hT 16 (by decide)
    have v17 : vs 17 = (.bool true) := hT 17 (by decide)
    have v18 : vs 18 = (.bool true) := hT 18 (by decide)
    have v19 : vs 19 = (.bool true) := hT 19 (by decide)
    have v20 : vs 20 = (.bool true) := hT 20 (by decide)
    have v21 : vs 21 = (.bool true) := hT 21 (by decide)
    have v22 : vs 22 = (.bool true) := hT 22 (by decide)
    have v23 : vs 23 = (.bool true) := hT 23 (by decide)
    have v24 : vs 24 = (.bool true) := hT 24 (by decide)
    simp only [Flow.putsT, v0, v1, v2, v3, v4, v5, v6, v7, v8, v9, v10, v11, v12, v13, v14, v15, v16, v17, v18, v19, v20, v21, v22, v23, v24, Act.put, List.setIfInBounds_toArray, List.set_cons_zero, List.set_cons_succ]
    clear hT v0 v1 v2 v3 v4 v5 v6 v7 v8 v9 v10 v11 v12 v13 v14 v15 v16 v17 v18 v19 v20 v21 v22 v23 v24
    go_wp2
    go_ret
    exact ⟨rfl, below_step HB.out hb⟩
set_option maxHeartbeats 4000000 in
theorem law_m (w : World) (hx1 : nw b0 e0 s0 b1 e1 s1 = true) (hy1 : nw b1 e1 s1 b2 e2 s2 = false) : Calls Try.prog 4 #[.agg cs0, .agg cs1, .agg cs2] w fun e w' => e = .returned (.bool true) ∧ Below w.heap.size w w' := by
  have hu35 := Try.underlying35
  have ht := nw_anti _ _ _ _ _ _ hx1
  go_enter Try.func4, Try.ntmps4
  go_wp2_with (first | ((with_reducible refine gate_dst (N := 8) rfl ?_); refine wantL (by rfl) (Flow.val_run (run_load_row (k := 3) (cs := cs0) rfl (by rfl) Try.underlying35 rfl (by rw [hs0]; exact size35) (by first | assumption | exact al0 _ _ _ _ | exact al1 _ _ _ _ | exact al2 _ _ _ _)) ?_)) | ((with_reducible refine gate_dst (N := 9) rfl ?_); refine wantL (by rfl) (Flow.val_run (run_load_row (k := 4) (cs := cs1) rfl (by rfl) Try.underlying35 rfl (by rw [hs1]; exact size35) (by first | assumption | exact al0 _ _ _ _ | exact al1 _ _ _ _ | exact al2 _ _ _ _)) ?_)) | ((with_reducible refine gate_dst (N := 13) rfl ?_); refine wantL (by rfl) (Flow.val_run (run_load_row (k := 4) (cs := cs1) rfl (by rfl) Try.underlying35 rfl (by rw [hs1]; exact size35) (by first | assumption | exact al0 _ _ _ _ | exact al1 _ _ _ _ | exact al2 _ _ _ _)) ?_)) | ((with_reducible refine gate_dst (N := 14) rfl ?_); refine wantL (by rfl) (Flow.val_run (run_load_row (k := 5) (cs := cs2) rfl (by rfl) Try.underlying35 rfl (by rw [hs2]; exact size35) (by first | assumption | exact al0 _ _ _ _ | exact al1 _ _ _ _ | exact al2 _ _ _ _)) ?_)) | ((with_reducible refine gate_dst (N := 19) rfl ?_); refine wantL (by rfl) (Flow.val_run (run_load_row (k := 3) (cs := cs0) rfl (by rfl) Try.underlying35 rfl (by rw [hs0]; exact size35) (by first | assumption | exact al0 _ _ _ _ | exact al1 _ _ _ _ | exact al2 _ _ _ _)) ?_)) | ((with_reducible refine gate_dst (N := 20) rfl ?_); refine wantL (by rfl) (Flow.val_run (run_load_row (k := 5) (cs := cs2) rfl (by rfl) Try.underlying35 rfl (by rw [hs2]; exact size35) (by first | assumption | exact al0 _ _ _ _ | exact al1 _ _ _ _ | exact al2 _ _ _ _)) ?_)) | (go_at_call 15; (with_reducible refine (newer_c cs0 cs1 hs0 hs1 b0 e0 s0 b1 e1 s1 h0b h0e h0s h1b h1e h1s _).mono ?_); rintro e w1 ⟨rfl, hb1⟩; rw [hx1]; have m0 : w1.heap[w.heap.size]? = some (.cells cs0 35 (0, 0)) := (hb1.block _ (by first | (simp; done) | (simp; omega))).trans (al0 _ _ _ _); have m1 : w1.heap[w.heap.size + 1]? = some (.cells cs1 35 (0, 0)) := (hb1.block _ (by first | (simp; done) | (simp; omega))).trans (al1 _ _ _ _); have m2 : w1.heap[w.heap.size + 2]? = some (.cells cs2 35 (0, 0)) := (hb1.block _ (by first | (simp; done) | (simp; omega))).trans (al2 _ _ _ _); have HB := Aside0.mk ((((Below.refl _ _).alloc (Nat.le_refl _) _ |>.alloc (by first | (simp; done) | (simp; omega)) _ |>.alloc (by first | (simp; done) | (simp; omega)) _).trans (hb1.mono (by first | (simp; done) | (simp; omega))) : Below w.heap.size w w1)); clear hb1) | (go_at_call 15; (with_reducible refine (newer_c cs1 cs2 hs1 hs2 b1 e1 s1 b2 e2 s2 h1b h1e h1s h2b h2e h2s _).mono ?_); rintro e w1 ⟨rfl, hb1⟩; rw [hy1]; have n0 := blk_below m0 hb1; have n1 := blk_below m1 hb1; have n2 := blk_below m2 hb1; clear m0 m1 m2; have m0 := n0; have m1 := n1; have m2 := n2; clear n0 n1 n2; have HB2 := Aside0.mk (below_step HB.out hb1); clear HB; have HB := HB2; clear HB2; clear hb1))
  refine Flow.flowT (E := fun u v => Below u.heap.size u v) [(some 23, []), (some 24, []), (some 25, [0, 1]), (some 26, []), (some 27, []), (some 28, [3, 4, 2]), (some 29, [2, 5]), (some 30, [6, 5]), (some 31, [7]), (some 32, [7]), (some 33, [8, 9, 7, 7]), (some 34, [10, 10, 7]), (some 35, [11]), (some 36, [11]), (some 37, [12, 13, 11, 11]), (some 38, [11, 14, 7]), (some 39, [15, 7]), (some 40, [7, 16]), (some 41, [17, 14]), (some 42, [18]), (some 43, [18, 19]), (some 44, [20, 18]), (some 45, [21, 21]), (some 46, [21, 22]), (some 6, [23, 22, 0, 1, 2, 3, 4, 5, 6, 7, 8, 9, 10, 11, 12, 13, 14, 15, 16, 17, 18, 19, 20, 21, 22, 23])] (fun i v _ => match i with | 0 => v = (.agg cs0) | 1 => v = (.agg cs1) | 2 => v = (.bool true) | 3 => v = (.agg cs0) | 4 => v = (.agg cs1) | 5 => v = (.bool true) | 6 => v = (.bool true) | 7 => v = (.bool true) | 8 => v = (.agg cs0) | 9 => v = (.agg cs1) | 10 => v = (.bool true) | 11 => v = (.bool true) | 12 => v = (.agg cs1) | 13 => v = (.agg cs0) | 14 => v = (.bool false) | 15 => v = (.bool false) | 16 => v = (.bool true) | 17 => v = (.bool true) | 18 => v = (.bool true) | 19 => v = (.bool true) | 20 => v = (.bool true) | 21 => v = (.bool true) | 22 => v = (.bool true) | 23 => v = (.bool true) | 24 => v = (.bool true) | _ => True) rfl (by kernel_rfl) (by kernel_rfl) (by kernel_rfl) ((Below.refl _ _).drew) (fun _ _ _ h k => h.trans (k.mono h.size)) (fun _ _ _ _ h _ => h) ?_ ?_
  · refine ⟨?_, ?_, ?_, ?_, ?_, ?_, ?_, ?_, ?_, ?_, ?_, ?_, ?_, ?_, ?_, ?_, ?_, ?_, ?_, ?_, ?_, ?_, ?_, ?_, ?_, trivial⟩
    · intro a w' hx hu hd K hK
      have e3 : a.tmps.getD 3 undef = (.pointer (some ⟨w.heap.size, 0, none⟩)) := hu 3 rfl
      refine Flow.want rfl ?_
      exact Flow.val_run (run_load_row rfl e3 Try.underlying35 rfl (by rw [hs0]; exact size35) (blk_below m0 hx)) (hK _ _ (Below.refl _ _) rfl)
    · intro a w' hx hu hd K hK
      have e4 : a.tmps.getD 4 undef = (.pointer (some ⟨w.heap.size + 1, 0, none⟩)) := hu 4 rfl
      refine Flow.want rfl ?_
      exact Flow.val_run (run_load_row rfl e4 Try.underlying35 rfl (by rw [hs1]; exact size35) (blk_below m1 hx)) (hK _ _ (Below.refl _ _) rfl)
    · intro a w' hx hu hd K hK
      have e23 : a.tmps.getD 23 undef = (.agg cs0) := by obtain ⟨_, t, q⟩ := hd 0 (by decide); exact (q 23 rfl).trans t
      have e24 : a.tmps.getD 24 undef = (.agg cs1) := by obtain ⟨_, t, q⟩ := hd 1 (by decide); exact (q 24 rfl).trans t
      refine Flow.want rfl ?_
      refine Flow.val_call rfl Try.func15 (by kernel_rfl) rfl (by simp only [List.map_toArray, List.map_cons, List.map_nil, Act.eval, e23, e24]) (newer_c cs0 cs1 hs0 hs1 b0 e0 s0 b1 e1 s1 h0b h0e h0s h1b h1e h1s w') ?_
      rintro e w2 ⟨rfl, hb2⟩
      rw [hx1]
      exact ⟨_, rfl, hK _ _ hb2 (by rfl)⟩
    · intro a w' hx hu hd K hK
      have e3 : a.tmps.getD 3 undef = (.pointer (some ⟨w.heap.size, 0, none⟩)) := hu 3 rfl
      refine Flow.want rfl ?_
      exact Flow.val_run (run_load_row rfl e3 Try.underlying35 rfl (by rw [hs0]; exact size35) (blk_below m0 hx)) (hK _ _ (Below.refl _ _) rfl)
    · intro a w' hx hu hd K hK
      have e4 : a.tmps.getD 4 undef = (.pointer (some ⟨w.heap.size + 1, 0, none⟩)) := hu 4 rfl
      refine Flow.want rfl ?_
      exact Flow.val_run (run_load_row rfl e4 Try.underlying35 rfl (by rw [hs1]; exact size35) (blk_below m1 hx)) (hK _ _ (Below.refl _ _) rfl)
    · intro a w' hx hu hd K hK
      have e26 : a.tmps.getD 26 undef = (.agg cs0) := by obtain ⟨_, t, q⟩ := hd 3 (by decide); exact (q 26 rfl).trans t
      have e27 : a.tmps.getD 27 undef = (.agg cs1) := by obtain ⟨_, t, q⟩ := hd 4 (by decide); exact (q 27 rfl).trans t
      refine Flow.want rfl ?_
      refine Flow.val_call rfl Try.func16 (by kernel_rfl) rfl (by simp only [List.map_toArray, List.map_cons, List.map_nil, Act.eval, e26, e27]) (rnewer_c cs0 cs1 hs0 hs1 b0 e0 s0 b1 e1 s1 h0b h0e h0s h1b h1e h1s w') ?_
      rintro e w2 ⟨rfl, hb2⟩
      rw [hx1]
      exact ⟨_, rfl, hK _ _ hb2 (by rfl)⟩
    · intro a w' hx hu hd K hK
      have e25 : a.tmps.getD 25 undef = (.bool true) := by obtain ⟨_, t, q⟩ := hd 2 (by decide); exact (q 25 rfl).trans t
      have e28 : a.tmps.getD 28 undef = (.bool true) := by obtain ⟨_, t, q⟩ := hd 5 (by decide); exact (q 28 rfl).trans t
      refine Flow.want rfl ?_
      exact Flow.val_run (by unfold execOp; simp only [Act.eval, e25, e28]; rfl) (hK _ _ (Below.refl _ _) rfl)
    · intro a w' hx hu hd K hK
      have e29 : a.tmps.getD 29 undef = (.bool true) := by obtain ⟨_, t, q⟩ := hd 6 (by decide); exact (q 29 rfl).trans t
      refine Flow.want rfl ?_
      exact Flow.val_move rfl e29 (hK _ _ (Below.refl _ _) rfl)
    · intro a w' hx hu hd K hK
      have e3 : a.tmps.getD 3 undef = (.pointer (some ⟨w.heap.size, 0, none⟩)) := hu 3 rfl
      have e30 : a.tmps.getD 30 undef = (.bool true) := by obtain ⟨_, t, q⟩ := hd 7 (by decide); exact (q 30 rfl).trans t
      refine Flow.want (Flow.want_of (k := 30) rfl e30) ?_
      exact Flow.val_run (run_load_row rfl e3 Try.underlying35 rfl (by rw [hs0]; exact size35) (blk_below m0 hx)) (hK _ _ (Below.refl _ _) rfl)
    · intro a w' hx hu hd K hK
      have e4 : a.tmps.getD 4 undef = (.pointer (some ⟨w.heap.size + 1, 0, none⟩)) := hu 4 rfl
      have e30 : a.tmps.getD 30 undef = (.bool true) := by obtain ⟨_, t, q⟩ := hd 7 (by decide); exact (q 30 rfl).trans t
      refine Flow.want (Flow.want_of (k := 30) rfl e30) ?_
      exact Flow.val_run (run_load_row rfl e4 Try.underlying35 rfl (by rw [hs1]; exact size35) (blk_below m1 hx)) (hK _ _ (Below.refl _ _) rfl)
    · intro a w' hx hu hd K hK
      have e31 : a.tmps.getD 31 undef = (.agg cs0) := by obtain ⟨_, t, q⟩ := hd 8 (by decide); exact (q 31 rfl).trans t
      have e32 : a.tmps.getD 32 undef = (.agg cs1) := by obtain ⟨_, t, q⟩ := hd 9 (by decide); exact (q 32 rfl).trans t
      have e30 : a.tmps.getD 30 undef = (.bool true) := by obtain ⟨_, t, q⟩ := hd 7 (by decide); exact (q 30 rfl).trans t
      refine Flow.want (Flow.want_of (k := 30) rfl e30) ?_
      refine Flow.val_call rfl Try.func15 (by kernel_rfl) rfl (by simp only [List.map_toArray, List.map_cons, List.map_nil, Act.eval, e31, e32]) (newer_c cs0 cs1 hs0 hs1 b0 e0 s0 b1 e1 s1 h0b h0e h0s h1b h1e h1s w') ?_
      rintro e w2 ⟨rfl, hb2⟩
      rw [hx1]
      exact ⟨_, rfl, hK _ _ hb2 (by rfl)⟩
    · intro a w' hx hu hd K hK
      have e33 : a.tmps.getD 33 undef = (.bool true) := by obtain ⟨_, t, q⟩ := hd 10 (by decide); exact (q 33 rfl).trans t
      have e30 : a.tmps.getD 30 undef = (.bool true) := by obtain ⟨_, t, q⟩ := hd 7 (by decide); exact (q 30 rfl).trans t
      refine Flow.want (Flow.want_of (k := 30) rfl e30) ?_
      exact Flow.val_move rfl e33 (hK _ _ (Below.refl _ _) rfl)
    · intro a w' hx hu hd K hK
      have e4 : a.tmps.getD 4 undef = (.pointer (some ⟨w.heap.size + 1, 0, none⟩)) := hu 4 rfl
      have e34 : a.tmps.getD 34 undef = (.bool true) := by obtain ⟨_, t, q⟩ := hd 11 (by decide); exact (q 34 rfl).trans t
      refine Flow.want (Flow.want_of (k := 34) rfl e34) ?_
      exact Flow.val_run (run_load_row rfl e4 Try.underlying35 rfl (by rw [hs1]; exact size35) (blk_below m1 hx)) (hK _ _ (Below.refl _ _) rfl)
    · intro a w' hx hu hd K hK
      have e3 : a.tmps.getD 3 undef = (.pointer (some ⟨w.heap.size, 0, none⟩)) := hu 3 rfl
      have e34 : a.tmps.getD 34 undef = (.bool true) := by obtain ⟨_, t, q⟩ := hd 11 (by decide); exact (q 34 rfl).trans t
      refine Flow.want (Flow.want_of (k := 34) rfl e34) ?_
      exact Flow.val_run (run_load_row rfl e3 Try.underlying35 rfl (by rw [hs0]; exact size35) (blk_below m0 hx)) (hK _ _ (Below.refl _ _) rfl)
    · intro a w' hx hu hd K hK
      have e35 : a.tmps.getD 35 undef = (.agg cs1) := by obtain ⟨_, t, q⟩ := hd 12 (by decide); exact (q 35 rfl).trans t
      have e36 : a.tmps.getD 36 undef = (.agg cs0) := by obtain ⟨_, t, q⟩ := hd 13 (by decide); exact (q 36 rfl).trans t
      have e34 : a.tmps.getD 34 undef = (.bool true) := by obtain ⟨_, t, q⟩ := hd 11 (by decide); exact (q 34 rfl).trans t
      refine Flow.want (Flow.want_of (k := 34) rfl e34) ?_
      refine Flow.val_call rfl Try.func15 (by kernel_rfl) rfl (by simp only [List.map_toArray, List.map_cons, List.map_nil, Act.eval, e35, e36]) (newer_c cs1 cs0 hs1 hs0 b1 e1 s1 b0 e0 s0 h1b h1e h1s h0b h0e h0s w') ?_
      rintro e w2 ⟨rfl, hb2⟩
      rw [ht]
      exact ⟨_, rfl, hK _ _ hb2 (by rfl)⟩
    · intro a w' hx hu hd K hK
      have e34 : a.tmps.getD 34 undef = (.bool true) := by obtain ⟨_, t, q⟩ := hd 11 (by decide); exact (q 34 rfl).trans t
      have e37 : a.tmps.getD 37 undef = (.bool false) := by obtain ⟨_, t, q⟩ := hd 14 (by decide); exact (q 37 rfl).trans t
      have e30 : a.tmps.getD 30 undef = (.bool true) := by obtain ⟨_, t, q⟩ := hd 7 (by decide); exact (q 30 rfl).trans t
      refine Flow.want (Flow.want_of (k := 30) rfl e30) ?_
      exact Flow.val_pick rfl e34 e37 (hK _ _ (Below.refl _ _) rfl)
    · intro a w' hx hu hd K hK
      have e38 : a.tmps.getD 38 undef = (.bool false) := by obtain ⟨_, t, q⟩ := hd 15 (by decide); exact (q 38 rfl).trans t
      have e30 : a.tmps.getD 30 undef = (.bool true) := by obtain ⟨_, t, q⟩ := hd 7 (by decide); exact (q 30 rfl).trans t
      refine Flow.want (Flow.want_of (k := 30) rfl e30) ?_
      exact Flow.val_not rfl e38 (hK _ _ (Below.refl _ _) rfl)
    · intro a w' hx hu hd K hK
      have e30 : a.tmps.getD 30 undef = (.bool true) := by obtain ⟨_, t, q⟩ := hd 7 (by decide); exact (q 30 rfl).trans t
      have e39 : a.tmps.getD 39 undef = (.bool true) := by obtain ⟨_, t, q⟩ := hd 16 (by decide); exact (q 39 rfl).trans t
      refine Flow.want rfl ?_
      exact Flow.val_pick rfl e30 e39 (hK _ _ (Below.refl _ _) rfl)
    · intro a w' hx hu hd K hK
      have e40 : a.tmps.getD 40 undef = (.bool true) := by obtain ⟨_, t, q⟩ := hd 17 (by decide); exact (q 40 rfl).trans t
      refine Flow.want rfl ?_
      exact Flow.val_move rfl e40 (hK _ _ (Below.refl _ _) rfl)
    · intro a w' hx hu hd K hK
      have e7 : a.tmps.getD 7 undef = (.bool true) := hu 7 rfl
      have e41 : a.tmps.getD 41 undef = (.bool true) := by obtain ⟨_, t, q⟩ := hd 18 (by decide); exact (q 41 rfl).trans t
      refine Flow.want (Flow.want_of (k := 41) rfl e41) ?_
      exact Flow.val_move rfl e7 (hK _ _ (Below.refl _ _) rfl)
    · intro a w' hx hu hd K hK
      have e41 : a.tmps.getD 41 undef = (.bool true) := by obtain ⟨_, t, q⟩ := hd 18 (by decide); exact (q 41 rfl).trans t
      have e42 : a.tmps.getD 42 undef = (.bool true) := by obtain ⟨_, t, q⟩ := hd 19 (by decide); exact (q 42 rfl).trans t
      refine Flow.want rfl ?_
      exact Flow.val_pick rfl e41 e42 (hK _ _ (Below.refl _ _) rfl)
    · intro a w' hx hu hd K hK
      have e43 : a.tmps.getD 43 undef = (.bool true) := by obtain ⟨_, t, q⟩ := hd 20 (by decide); exact (q 43 rfl).trans t
      refine Flow.want rfl ?_
      exact Flow.val_move rfl e43 (hK _ _ (Below.refl _ _) rfl)
    · intro a w' hx hu hd K hK
      have e44 : a.tmps.getD 44 undef = (.bool true) := by obtain ⟨_, t, q⟩ := hd 21 (by decide); exact (q 44 rfl).trans t
      refine Flow.want (Flow.want_of (k := 44) rfl e44) ?_
      refine Flow.val_call rfl Try.func17 (by kernel_rfl) rfl (by simp only [List.map_toArray, List.map_cons, List.map_nil, Act.eval]) (live w') ?_
      rintro e w2 ⟨rfl, hb2⟩
      exact ⟨_, rfl, hK _ _ hb2 (by rfl)⟩
    · intro a w' hx hu hd K hK
      have e44 : a.tmps.getD 44 undef = (.bool true) := by obtain ⟨_, t, q⟩ := hd 21 (by decide); exact (q 44 rfl).trans t
      have e45 : a.tmps.getD 45 undef = (.bool true) := by obtain ⟨_, t, q⟩ := hd 22 (by decide); exact (q 45 rfl).trans t
      refine Flow.want rfl ?_
      exact Flow.val_pick rfl e44 e45 (hK _ _ (Below.refl _ _) rfl)
    · intro a w' hx hu hd K hK
      have e46 : a.tmps.getD 46 undef = (.bool true) := by obtain ⟨_, t, q⟩ := hd 23 (by decide); exact (q 46 rfl).trans t
      refine Flow.want rfl ?_
      exact Flow.val_assign rfl e46 (hK _ _ (Below.refl _ _) rfl)
  · intro vs w' hb hT
    have v0 : vs 0 = (.agg cs0) := hT 0 (by decide)
    have v1 : vs 1 = (.agg cs1) := hT 1 (by decide)
    have v2 : vs 2 = (.bool true) := hT 2 (by decide)
    have v3 : vs 3 = (.agg cs0) := hT 3 (by decide)
    have v4 : vs 4 = (.agg cs1) := hT 4 (by decide)
    have v5 : vs 5 = (.bool true) := hT 5 (by decide)
    have v6 : vs 6 = (.bool true) := hT 6 (by decide)
    have v7 : vs 7 = (.bool true) := hT 7 (by decide)
    have v8 : vs 8 = (.agg cs0) := hT 8 (by decide)
    have v9 : vs 9 = (.agg cs1) := hT 9 (by decide)
    have v10 : vs 10 = (.bool true) := hT 10 (by decide)
    have v11 : vs 11 = (.bool true) := hT 11 (by decide)
    have v12 : vs 12 = (.agg cs1) := hT 12 (by decide)
    have v13 : vs 13 = (.agg cs0) := hT 13 (by decide)
    have v14 : vs 14 = (.bool false) := hT 14 (by decide)
    have v15 : vs 15 = (.bool false) := hT 15 (by decide)
    have v16 : vs 16 = (.bool true) := hT 16 (by decide)
    have v17 : vs 17 = (.bool true) := hT 17 (by decide)
    have v18 : vs 18 = (.bool true) := hT 18 (by decide)
    have v19 : vs 19 = (.bool true) := hT 19 (by decide)
    have v20 : vs 20 = (.bool true) := hT 20 (by decide)
    have v21 : vs 21 = (.bool true) := hT 21 (by decide)
    have v22 : vs 22 = (.bool true) := hT 22 (by decide)
    have v23 : vs 23 = (.bool true) := hT 23 (by decide)
    have v24 : vs 24 = (.bool true) := hT 24 (by decide)
    simp only [Flow.putsT, v0, v1, v2, v3, v4, v5, v6, v7, v8, v9, v10, v11, v12, v13, v14, v15, v16, v17, v18, v19, v20, v21, v22, v23, v24, Act.put, List.setIfInBounds_toArray, List.set_cons_zero, List.set_cons_succ]
    clear hT v0 v1 v2 v3 v4 v5 v6 v7 v8 v9 v10 v11 v12 v13 v14 v15 v16 v17 v18 v19 v20 v21 v22 v23 v24
    go_wp2
    go_ret
    exact ⟨rfl, below_step HB.out hb⟩
end
section
variable (cs0 cs1 cs2 : Array Value) (hs0 : cs0.size = 17) (hs1 : cs1.size = 17) (b0 e0 s0 b1 e1 s1 : Int)
  (h0b : cs0[16]'(by omega) = .int .i64 b0) (h0e : cs0[11]'(by omega) = .int .i64 e0) (h0s : cs0[12]'(by omega) = .int .i64 s0)
  (h1b : cs1[16]'(by omega) = .int .i64 b1) (h1e : cs1[11]'(by omega) = .int .i64 e1) (h1s : cs1[12]'(by omega) = .int .i64 s1)
  (live : ∀ w, Calls Try.prog 17 #[] w fun e w' => e = .returned (.bool true) ∧ Below w.heap.size w w')
include hs0 hs1 h0b h0e h0s h1b h1e h1s live
set_option maxHeartbeats 4000000 in
theorem law_f (w : World) (hx1 : nw b0 e0 s0 b1 e1 s1 = false) : Calls Try.prog 4 #[.agg cs0, .agg cs1, .agg cs2] w fun e w' => e = .returned (.bool true) ∧ Below w.heap.size w w' := by
  have hu35 := Try.underlying35
  go_enter Try.func4, Try.ntmps4
  go_wp2_with (first | ((with_reducible refine gate_dst (N := 8) rfl ?_); refine wantL (by rfl) (Flow.val_run (run_load_row (k := 3) (cs := cs0) rfl (by rfl) Try.underlying35 rfl (by rw [hs0]; exact size35) (by first | assumption | exact al0 _ _ _ _ | exact al1 _ _ _ _ | exact al2 _ _ _ _)) ?_)) | ((with_reducible refine gate_dst (N := 9) rfl ?_); refine wantL (by rfl) (Flow.val_run (run_load_row (k := 4) (cs := cs1) rfl (by rfl) Try.underlying35 rfl (by rw [hs1]; exact size35) (by first | assumption | exact al0 _ _ _ _ | exact al1 _ _ _ _ | exact al2 _ _ _ _)) ?_)) | ((with_reducible refine gate_dst (N := 13) rfl ?_); refine wantL (by rfl) (Flow.val_run (run_load_row (k := 4) (cs := cs1) rfl (by rfl) Try.underlying35 rfl (by rw [hs1]; exact size35) (by first | assumption | exact al0 _ _ _ _ | exact al1 _ _ _ _ | exact al2 _ _ _ _)) ?_)) | ((with_reducible refine gate_dst (N := 14) rfl ?_); refine wantL (by rfl) (Flow.val_run (run_load_row (k := 5) (cs := cs2) rfl (by rfl) Try.underlying35 rfl (by rw [hs2]; exact size35) (by first | assumption | exact al0 _ _ _ _ | exact al1 _ _ _ _ | exact al2 _ _ _ _)) ?_)) | ((with_reducible refine gate_dst (N := 19) rfl ?_); refine wantL (by rfl) (Flow.val_run (run_load_row (k := 3) (cs := cs0) rfl (by rfl) Try.underlying35 rfl (by rw [hs0]; exact size35) (by first | assumption | exact al0 _ _ _ _ | exact al1 _ _ _ _ | exact al2 _ _ _ _)) ?_)) | ((with_reducible refine gate_dst (N := 20) rfl ?_); refine wantL (by rfl) (Flow.val_run (run_load_row (k := 5) (cs := cs2) rfl (by rfl) Try.underlying35 rfl (by rw [hs2]; exact size35) (by first | assumption | exact al0 _ _ _ _ | exact al1 _ _ _ _ | exact al2 _ _ _ _)) ?_)) | (go_at_call 15; (with_reducible refine (newer_c cs0 cs1 hs0 hs1 b0 e0 s0 b1 e1 s1 h0b h0e h0s h1b h1e h1s _).mono ?_); rintro e w1 ⟨rfl, hb1⟩; rw [hx1]; have m0 : w1.heap[w.heap.size]? = some (.cells cs0 35 (0, 0)) := (hb1.block _ (by first | (simp; done) | (simp; omega))).trans (al0 _ _ _ _); have m1 : w1.heap[w.heap.size + 1]? = some (.cells cs1 35 (0, 0)) := (hb1.block _ (by first | (simp; done) | (simp; omega))).trans (al1 _ _ _ _); have m2 : w1.heap[w.heap.size + 2]? = some (.cells cs2 35 (0, 0)) := (hb1.block _ (by first | (simp; done) | (simp; omega))).trans (al2 _ _ _ _); have HB := Aside0.mk ((((Below.refl _ _).alloc (Nat.le_refl _) _ |>.alloc (by first | (simp; done) | (simp; omega)) _ |>.alloc (by first | (simp; done) | (simp; omega)) _).trans (hb1.mono (by first | (simp; done) | (simp; omega))) : Below w.heap.size w w1)); clear hb1))
  refine Flow.flowT (E := fun u v => Below u.heap.size u v) [(some 23, []), (some 24, []), (some 25, [0, 1]), (some 26, []), (some 27, []), (some 28, [3, 4, 2]), (some 29, [2, 5]), (some 30, [6, 5]), (some 31, [7]), (some 32, [7]), (some 33, [8, 9, 7, 7]), (some 34, [10, 10, 7]), (some 35, [11]), (some 36, [11]), (some 37, [12, 13, 11, 11]), (some 38, [11, 14, 7]), (some 39, [15, 7]), (some 40, [7, 16]), (some 41, [17, 14]), (some 42, [18]), (some 43, [18, 19]), (some 44, [20, 18]), (some 45, [21, 21]), (some 46, [21, 22]), (some 6, [23, 22, 0, 1, 2, 3, 4, 5, 6, 7, 8, 9, 10, 11, 12, 13, 14, 15, 16, 17, 18, 19, 20, 21, 22, 23])] (fun i v _ => match i with | 0 => v = (.agg cs0) | 1 => v = (.agg cs1) | 2 => v = (.bool false) | 3 => v = (.agg cs0) | 4 => v = (.agg cs1) | 5 => v = (.bool false) | 6 => v = (.bool true) | 7 => v = (.bool true) | 8 => v = (.agg cs0) | 9 => v = (.agg cs1) | 10 => v = (.bool false) | 11 => v = (.bool false) | 12 => v = undef | 13 => v = undef | 14 => v = undef | 15 => v = (.bool false) | 16 => v = (.bool true) | 17 => v = (.bool true) | 18 => v = (.bool true) | 19 => v = (.bool true) | 20 => v = (.bool true) | 21 => v = (.bool true) | 22 => v = (.bool true) | 23 => v = (.bool true) | 24 => v = (.bool true) | _ => True) rfl (by kernel_rfl) (by kernel_rfl) (by kernel_rfl) ((Below.refl _ _).drew) (fun _ _ _ h k => h.trans (k.mono h.size)) (fun _ _ _ _ h _ => h) ?_ ?_
  · refine ⟨?_, ?_, ?_, ?_, ?_, ?_, ?_, ?_, ?_, ?_, ?_, ?_, ?_, ?_, ?_, ?_, ?_, ?_, ?_, ?_, ?_, ?_, ?_, ?_, ?_, trivial⟩
    · intro a w' hx hu hd K hK
      have e3 : a.tmps.getD 3 undef = (.pointer (some ⟨w.heap.size, 0, none⟩)) := hu 3 rfl
      refine Flow.want rfl ?_
      exact Flow.val_run (run_load_row rfl e3 Try.underlying35 rfl (by rw [hs0]; exact size35) (blk_below m0 hx)) (hK _ _ (Below.refl _ _) rfl)
    · intro a w' hx hu hd K hK
      have e4 : a.tmps.getD 4 undef = (.pointer (some ⟨w.heap.size + 1, 0, none⟩)) := hu 4 rfl
      refine Flow.want rfl ?_
      exact Flow.val_run (run_load_row rfl e4 Try.underlying35 rfl (by rw [hs1]; exact size35) (blk_below m1 hx)) (hK _ _ (Below.refl _ _) rfl)
    · intro a w' hx hu hd K hK
      have e23 : a.tmps.getD 23 undef = (.agg cs0) := by obtain ⟨_, t, q⟩ := hd 0 (by decide); exact (q 23 rfl).trans t
      have e24 : a.tmps.getD 24 undef = (.agg cs1) := by obtain ⟨_, t, q⟩ := hd 1 (by decide); exact (q 24 rfl).trans t
      refine Flow.want rfl ?_
      refine Flow.val_call rfl Try.func15 (by kernel_rfl) rfl (by simp only [List.map_toArray, List.map_cons, List.map_nil, Act.eval, e23, e24]) (newer_c cs0 cs1 hs0 hs1 b0 e0 s0 b1 e1 s1 h0b h0e h0s h1b h1e h1s w') ?_
      rintro e w2 ⟨rfl, hb2⟩
      rw [hx1]
      exact ⟨_, rfl, hK _ _ hb2 (by rfl)⟩
    · intro a w' hx hu hd K hK
      have e3 : a.tmps.getD 3 undef = (.pointer (some ⟨w.heap.size, 0, none⟩)) := hu 3 rfl
      refine Flow.want rfl ?_
      exact Flow.val_run (run_load_row rfl e3 Try.underlying35 rfl (by rw [hs0]; exact size35) (blk_below m0 hx)) (hK _ _ (Below.refl _ _) rfl)
    · intro a w' hx hu hd K hK
      have e4 : a.tmps.getD 4 undef = (.pointer (some ⟨w.heap.size + 1, 0, none⟩)) := hu 4 rfl
      refine Flow.want rfl ?_
      exact Flow.val_run (run_load_row rfl e4 Try.underlying35 rfl (by rw [hs1]; exact size35) (blk_below m1 hx)) (hK _ _ (Below.refl _ _) rfl)
    · intro a w' hx hu hd K hK
      have e26 : a.tmps.getD 26 undef = (.agg cs0) := by obtain ⟨_, t, q⟩ := hd 3 (by decide); exact (q 26 rfl).trans t
      have e27 : a.tmps.getD 27 undef = (.agg cs1) := by obtain ⟨_, t, q⟩ := hd 4 (by decide); exact (q 27 rfl).trans t
      refine Flow.want rfl ?_
      refine Flow.val_call rfl Try.func16 (by kernel_rfl) rfl (by simp only [List.map_toArray, List.map_cons, List.map_nil, Act.eval, e26, e27]) (rnewer_c cs0 cs1 hs0 hs1 b0 e0 s0 b1 e1 s1 h0b h0e h0s h1b h1e h1s w') ?_
      rintro e w2 ⟨rfl, hb2⟩
      rw [hx1]
      exact ⟨_, rfl, hK _ _ hb2 (by rfl)⟩
    · intro a w' hx hu hd K hK
      have e25 : a.tmps.getD 25 undef = (.bool false) := by obtain ⟨_, t, q⟩ := hd 2 (by decide); exact (q 25 rfl).trans t
      have e28 : a.tmps.getD 28 undef = (.bool false) := by obtain ⟨_, t, q⟩ := hd 5 (by decide); exact (q 28 rfl).trans t
      refine Flow.want rfl ?_
      exact Flow.val_run (by unfold execOp; simp only [Act.eval, e25, e28]; rfl) (hK _ _ (Below.refl _ _) rfl)
    · intro a w' hx hu hd K hK
      have e29 : a.tmps.getD 29 undef = (.bool true) := by obtain ⟨_, t, q⟩ := hd 6 (by decide); exact (q 29 rfl).trans t
      refine Flow.want rfl ?_
      exact Flow.val_move rfl e29 (hK _ _ (Below.refl _ _) rfl)
    · intro a w' hx hu hd K hK
      have e3 : a.tmps.getD 3 undef = (.pointer (some ⟨w.heap.size, 0, none⟩)) := hu 3 rfl
      have e30 : a.tmps.getD 30 undef = (.bool true) := by obtain ⟨_, t, q⟩ := hd 7 (by decide); exact (q 30 rfl).trans t
      refine Flow.want (Flow.want_of (k := 30) rfl e30) ?_
      exact Flow.val_run (run_load_row rfl e3 Try.underlying35 rfl (by rw [hs0]; exact size35) (blk_below m0 hx)) (hK _ _ (Below.refl _ _) rfl)
    · intro a w' hx hu hd K hK
      have e4 : a.tmps.getD 4 undef = (.pointer (some ⟨w.heap.size + 1, 0, none⟩)) := hu 4 rfl
      have e30 : a.tmps.getD 30 undef = (.bool true) := by obtain ⟨_, t, q⟩ := hd 7 (by decide); exact (q 30 rfl).trans t
      refine Flow.want (Flow.want_of (k := 30) rfl e30) ?_
      exact Flow.val_run (run_load_row rfl e4 Try.underlying35 rfl (by rw [hs1]; exact size35) (blk_below m1 hx)) (hK _ _ (Below.refl _ _) rfl)
    · intro a w' hx hu hd K hK
      have e31 : a.tmps.getD 31 undef = (.agg cs0) := by obtain ⟨_, t, q⟩ := hd 8 (by decide); exact (q 31 rfl).trans t
      have e32 : a.tmps.getD 32 undef = (.agg cs1) := by obtain ⟨_, t, q⟩ := hd 9 (by decide); exact (q 32 rfl).trans t
      have e30 : a.tmps.getD 30 undef = (.bool true) := by obtain ⟨_, t, q⟩ := hd 7 (by decide); exact (q 30 rfl).trans t
      refine Flow.want (Flow.want_of (k := 30) rfl e30) ?_
      refine Flow.val_call rfl Try.func15 (by kernel_rfl) rfl (by simp only [List.map_toArray, List.map_cons, List.map_nil, Act.eval, e31, e32]) (newer_c cs0 cs1 hs0 hs1 b0 e0 s0 b1 e1 s1 h0b h0e h0s h1b h1e h1s w') ?_
      rintro e w2 ⟨rfl, hb2⟩
      rw [hx1]
      exact ⟨_, rfl, hK _ _ hb2 (by rfl)⟩
    · intro a w' hx hu hd K hK
      have e33 : a.tmps.getD 33 undef = (.bool false) := by obtain ⟨_, t, q⟩ := hd 10 (by decide); exact (q 33 rfl).trans t
      have e30 : a.tmps.getD 30 undef = (.bool true) := by obtain ⟨_, t, q⟩ := hd 7 (by decide); exact (q 30 rfl).trans t
      refine Flow.want (Flow.want_of (k := 30) rfl e30) ?_
      exact Flow.val_move rfl e33 (hK _ _ (Below.refl _ _) rfl)
    · intro a w' hx hu hd K hK
      have e4 : a.tmps.getD 4 undef = (.pointer (some ⟨w.heap.size + 1, 0, none⟩)) := hu 4 rfl
      have e34 : a.tmps.getD 34 undef = (.bool false) := by obtain ⟨_, t, q⟩ := hd 11 (by decide); exact (q 34 rfl).trans t
      exact Flow.spare (Flow.spare_of (k := 34) rfl e34 rfl) (hK _ _ (Below.refl _ _) rfl)
    · intro a w' hx hu hd K hK
      have e3 : a.tmps.getD 3 undef = (.pointer (some ⟨w.heap.size, 0, none⟩)) := hu 3 rfl
      have e34 : a.tmps.getD 34 undef = (.bool false) := by obtain ⟨_, t, q⟩ := hd 11 (by decide); exact (q 34 rfl).trans t
      exact Flow.spare (Flow.spare_of (k := 34) rfl e34 rfl) (hK _ _ (Below.refl _ _) rfl)
    · intro a w' hx hu hd K hK
      have e35 : a.tmps.getD 35 undef = undef := by obtain ⟨_, t, q⟩ := hd 12 (by decide); exact (q 35 rfl).trans t
      have e36 : a.tmps.getD 36 undef = undef := by obtain ⟨_, t, q⟩ := hd 13 (by decide); exact (q 36 rfl).trans t
      have e34 : a.tmps.getD 34 undef = (.bool false) := by obtain ⟨_, t, q⟩ := hd 11 (by decide); exact (q 34 rfl).trans t
      exact Flow.spare (Flow.spare_of (k := 34) rfl e34 rfl) (hK _ _ (Below.refl _ _) rfl)
    · intro a w' hx hu hd K hK
      have e34 : a.tmps.getD 34 undef = (.bool false) := by obtain ⟨_, t, q⟩ := hd 11 (by decide); exact (q 34 rfl).trans t
      have e37 : a.tmps.getD 37 undef = undef := by obtain ⟨_, t, q⟩ := hd 14 (by decide); exact (q 37 rfl).trans t
      have e30 : a.tmps.getD 30 undef = (.bool true) := by obtain ⟨_, t, q⟩ := hd 7 (by decide); exact (q 30 rfl).trans t
      refine Flow.want (Flow.want_of (k := 30) rfl e30) ?_
      exact Flow.val_pick rfl e34 rfl (hK _ _ (Below.refl _ _) rfl)
    · intro a w' hx hu hd K hK
      have e38 : a.tmps.getD 38 undef = (.bool false) := by obtain ⟨_, t, q⟩ := hd 15 (by decide); exact (q 38 rfl).trans t
      have e30 : a.tmps.getD 30 undef = (.bool true) := by obtain ⟨_, t, q⟩ := hd 7 (by decide); exact (q 30 rfl).trans t
      refine Flow.want (Flow.want_of (k := 30) rfl e30) ?_
      exact Flow.val_not rfl e38 (hK _ _ (Below.refl _ _) rfl)
    · intro a w' hx hu hd K hK
      have e30 : a.tmps.getD 30 undef = (.bool true) := by obtain ⟨_, t, q⟩ := hd 7 (by decide); exact (q 30 rfl).trans t
      have e39 : a.tmps.getD 39 undef = (.bool true) := by obtain ⟨_, t, q⟩ := hd 16 (by decide); exact (q 39 rfl).trans t
      refine Flow.want rfl ?_
      exact Flow.val_pick rfl e30 e39 (hK _ _ (Below.refl _ _) rfl)
    · intro a w' hx hu hd K hK
      have e40 : a.tmps.getD 40 undef = (.bool true) := by obtain ⟨_, t, q⟩ := hd 17 (by decide); exact (q 40 rfl).trans t
      refine Flow.want rfl ?_
      exact Flow.val_move rfl e40 (hK _ _ (Below.refl _ _) rfl)
    · intro a w' hx hu hd K hK
      have e7 : a.tmps.getD 7 undef = (.bool true) := hu 7 rfl
      have e41 : a.tmps.getD 41 undef = (.bool true) := by obtain ⟨_, t, q⟩ := hd 18 (by decide); exact (q 41 rfl).trans t
      refine Flow.want (Flow.want_of (k := 41) rfl e41) ?_
      exact Flow.val_move rfl e7 (hK _ _ (Below.refl _ _) rfl)
    · intro a w' hx hu hd K hK
      have e41 : a.tmps.getD 41 undef = (.bool true) := by obtain ⟨_, t, q⟩ := hd 18 (by decide); exact (q 41 rfl).trans t
      have e42 : a.tmps.getD 42 undef = (.bool true) := by obtain ⟨_, t, q⟩ := hd 19 (by decide); exact (q 42 rfl).trans t
      refine Flow.want rfl ?_
      exact Flow.val_pick rfl e41 e42 (hK _ _ (Below.refl _ _) rfl)
    · intro a w' hx hu hd K hK
      have e43 : a.tmps.getD 43 undef = (.bool true) := by obtain ⟨_, t, q⟩ := hd 20 (by decide); exact (q 43 rfl).trans t
      refine Flow.want rfl ?_
      exact Flow.val_move rfl e43 (hK _ _ (Below.refl _ _) rfl)
    · intro a w' hx hu hd K hK
      have e44 : a.tmps.getD 44 undef = (.bool true) := by obtain ⟨_, t, q⟩ := hd 21 (by decide); exact (q 44 rfl).trans t
      refine Flow.want (Flow.want_of (k := 44) rfl e44) ?_
      refine Flow.val_call rfl Try.func17 (by kernel_rfl) rfl (by simp only [List.map_toArray, List.map_cons, List.map_nil, Act.eval]) (live w') ?_
      rintro e w2 ⟨rfl, hb2⟩
      exact ⟨_, rfl, hK _ _ hb2 (by rfl)⟩
    · intro a w' hx hu hd K hK
      have e44 : a.tmps.getD 44 undef = (.bool true) := by obtain ⟨_, t, q⟩ := hd 21 (by decide); exact (q 44 rfl).trans t
      have e45 : a.tmps.getD 45 undef = (.bool true) := by obtain ⟨_, t, q⟩ := hd 22 (by decide); exact (q 45 rfl).trans t
      refine Flow.want rfl ?_
      exact Flow.val_pick rfl e44 e45 (hK _ _ (Below.refl _ _) rfl)
    · intro a w' hx hu hd K hK
      have e46 : a.tmps.getD 46 undef = (.bool true) := by obtain ⟨_, t, q⟩ := hd 23 (by decide); exact (q 46 rfl).trans t
      refine Flow.want rfl ?_
      exact Flow.val_assign rfl e46 (hK _ _ (Below.refl _ _) rfl)
  · intro vs w' hb hT
    have v0 : vs 0 = (.agg cs0) := hT 0 (by decide)
    have v1 : vs 1 = (.agg cs1) := hT 1 (by decide)
    have v2 : vs 2 = (.bool false) := hT 2 (by decide)
    have v3 : vs 3 = (.agg cs0) := hT 3 (by decide)
    have v4 : vs 4 = (.agg cs1) := hT 4 (by decide)
    have v5 : vs 5 = (.bool false) := hT 5 (by decide)
    have v6 : vs 6 = (.bool true) := hT 6 (by decide)
    have v7 : vs 7 = (.bool true) := hT 7 (by decide)
    have v8 : vs 8 = (.agg cs0) := hT 8 (by decide)
    have v9 : vs 9 = (.agg cs1) := hT 9 (by decide)
    have v10 : vs 10 = (.bool false) := hT 10 (by decide)
    have v11 : vs 11 = (.bool false) := hT 11 (by decide)
    have v12 : vs 12 = undef := hT 12 (by decide)
    have v13 : vs 13 = undef := hT 13 (by decide)
    have v14 : vs 14 = undef := hT 14 (by decide)
    have v15 : vs 15 = (.bool false) := hT 15 (by decide)
    have v16 : vs 16 = (.bool true) := hT 16 (by decide)
    have v17 : vs 17 = (.bool true) := hT 17 (by decide)
    have v18 : vs 18 = (.bool true) := hT 18 (by decide)
    have v19 : vs 19 = (.bool true) := hT 19 (by decide)
    have v20 : vs 20 = (.bool true) := hT 20 (by decide)
    have v21 : vs 21 = (.bool true) := hT 21 (by decide)
    have v22 : vs 22 = (.bool true) := hT 22 (by decide)
    have v23 : vs 23 = (.bool true) := hT 23 (by decide)
    have v24 : vs 24 = (.bool true) := hT 24 (by decide)
    simp only [Flow.putsT, v0, v1, v2, v3, v4, v5, v6, v7, v8, v9, v10, v11, v12, v13, v14, v15, v16, v17, v18, v19, v20, v21, v22, v23, v24, Act.put, List.setIfInBounds_toArray, List.set_cons_zero, List.set_cons_succ]
    clear hT v0 v1 v2 v3 v4 v5 v6 v7 v8 v9 v10 v11 v12 v13 v14 v15 v16 v17 v18 v19 v20 v21 v22 v23 v24
    go_wp2
    go_ret
    exact ⟨rfl, below_step HB.out hb⟩
end
section
variable (cs0 cs1 cs2 : Array Value) (hs0 : cs0.size = 17) (hs1 : cs1.size = 17) (hs2 : cs2.size = 17) (b0 e0 s0 b1 e1 s1 b2 e2 s2 : Int)
  (h0b : cs0[16]'(by omega) = .int .i64 b0) (h0e : cs0[11]'(by omega) = .int .i64 e0) (h0s : cs0[12]'(by omega) = .int .i64 s0)
  (h1b : cs1[16]'(by omega) = .int .i64 b1) (h1e : cs1[11]'(by omega) = .int .i64 e1) (h1s : cs1[12]'(by omega) = .int .i64 s1)
  (h2b : cs2[16]'(by omega) = .int .i64 b2) (h2e : cs2[11]'(by omega) = .int .i64 e2) (h2s : cs2[12]'(by omega) = .int .i64 s2)
  (live : ∀ w, Calls Try.prog 17 #[] w fun e w' => e = .returned (.bool true) ∧ Below w.heap.size w w')
include hs0 hs1 h0b h0e h0s h1b h1e h1s hs2 h2b h2e h2s live
theorem law_c (w : World) : Calls Try.prog 4 #[.agg cs0, .agg cs1, .agg cs2] w fun e w' => e = .returned (.bool true) ∧ Below w.heap.size w w' := by
  cases hx : nw b0 e0 s0 b1 e1 s1 with
  | true =>
    cases hy : nw b1 e1 s1 b2 e2 s2 with
    | true => exact law_t cs0 cs1 cs2 hs0 hs1 hs2 b0 e0 s0 b1 e1 s1 b2 e2 s2 h0b h0e h0s h1b h1e h1s h2b h2e h2s live w hx hy
    | false => exact law_m cs0 cs1 cs2 hs0 hs1 hs2 b0 e0 s0 b1 e1 s1 b2 e2 s2 h0b h0e h0s h1b h1e h1s h2b h2e h2s live w hx hy
  | false => exact law_f cs0 cs1 cs2 hs0 hs1 b0 e0 s0 b1 e1 s1 h0b h0e h0s h1b h1e h1s live w hx
end
open Go.Proofs.Ytgchdkppjcnkiaa.PPickBests in
theorem newers_all {w : World} {x y z : S35} {cx cy cz : List Value} (hx : k35.K w x cx) (hy : k35.K w y cy) (hz : k35.K w z cz) :
    Calls Try.prog 4 #[.agg cx.toArray, .agg cy.toArray, .agg cz.toArray] w fun e w' => e = .returned (.bool true) ∧ Below w.heap.size w w' := by
  obtain ⟨a0, a1, a2, a3⟩ := facts hx
  obtain ⟨b0, b1, b2, b3⟩ := facts hy
  obtain ⟨c0, c1, c2, c3⟩ := facts hz
  exact law_c _ _ _ a0 b0 c0 _ _ _ _ _ _ _ _ _ a1 a2 a3 b1 b2 b3 c1 c2 c3 live_c w
end Go.Proofs.Ytgchdkppjcnkiaa.Newer
