/- The page's example of layer 13, walked. -/
import Derived.Test.YtgchdkppjcnkiaaBest
namespace Go.Proofs.Ytgchdkppjcnkiaa.Newer
open Go.RowKit Go.Proofs.Ytgchdkppjcnkiaa.PPickBests Go.Proofs.Ytgchdkppjcnkiaa.Cells Go.Proofs.YtgchdkppjcnkiaaW.PrintWords Go.Proofs.YtgchdkppjcnkiaaW.PrintLast Go.Proofs.YtgchdkppjcnkiaaW.PrintMore
def x0 : S35 := ⟨⟨z30, 2, 5, [], []⟩, 0, 1⟩
def x1 : S35 := ⟨⟨z30, 3, 1, [], []⟩, 0, 1⟩
theorem x_cells (w : World) (x : S35) (h3 : x.f0.f3 = []) (h4 : x.f0.f4 = []) : ∃ c : List Value, k35.K w x c ∧ c = [.int .i64 x.f0.f0.f0, .int .i64 x.f0.f0.f1, .int .i64 x.f0.f0.f2, .int .i64 x.f0.f0.f3, .int .i64 x.f0.f0.f4, .int .i64 x.f0.f0.f5, .int .i64 x.f0.f0.f6, .int .i64 x.f0.f0.f7, .int .i64 x.f0.f0.f8, .int .i64 x.f0.f0.f9, .int .i64 x.f0.f0.f10, .int .i64 x.f0.f1, .int .i64 x.f0.f2, .slice none 0 0, .slice none 0 0, .int .i64 x.f1, .int .i64 x.f2] := by
  have h := k35_mk w x (A13 := none) (c13 := 0) (by rw [h3]; exact Nat.le_refl 0) (by rw [h3]; exact Kd.C_nil _ w) (A14 := none) (c14 := 0) (by rw [h4]; exact Nat.le_refl 0) (by rw [h4]; exact Kd.C_nil _ w)
  rw [h3, h4] at h
  exact ⟨_, h, rfl⟩
theorem two (w : World) (g : Nat) (c0 c1 : List Value) (x y : S35) (h0 : k35.K w x c0) (h1 : k35.K w y c1) (l0 : c0.length = 17) (l1 : c1.length = 17) (hg : w.heap[g]? = some (.cells (c0 ++ c1).toArray 35 (0, 0))) : Kd.C k35 w (some ⟨g, 0, none⟩) 2 [x, y] := by
  refine ⟨rfl, by omega, fun _ => ⟨_, rfl, fun j p hj => ?_⟩⟩
  match j, hj with
  | 0, hj =>
    obtain rfl : x = p := by simpa using hj
    refine ⟨c0, l0, h0, fun i u hi => ?_⟩
    have hlt := (List.getElem?_eq_some_iff.1 hi).1
    rw [Addr.add_mid, cell_of_row w g _ _ _ _ hg]
    simp [List.getElem?_append_left hlt, hi]
  | 1, hj =>
    obtain rfl : y = p := by simpa using hj
    refine ⟨c1, l1, h1, fun i u hi => ?_⟩
    rw [Addr.add_mid, cell_of_row w g _ _ _ _ hg]
    have e : 0 + (1 * k35.sz + i) = c0.length + i := by rw [l0]; show 0 + (1 * 17 + i) = 17 + i; omega
    rw [e]
    simp [List.getElem?_append_right, hi]
  | j + 2, hj => simp at hj
theorem bk_live : bk [x0, x1] 2 = 1 := by decide
set_option maxHeartbeats 4000000 in
set_option maxRecDepth 100000 in
theorem live_c (w : World) : Calls Try.prog 17 #[] w fun e w' => e = .returned (.bool true) ∧ Below w.heap.size w w' := by
  have hu35 := Try.underlying35
  go_enter Try.func17, Try.ntmps17
  go_wp2_with fail
  obtain ⟨wa, hwa⟩ : ∃ wa, wa = (w.alloc (.cells #[.int .i64 0, .int .i64 0, .int .i64 0, .int .i64 0, .int .i64 0, .int .i64 0, .int .i64 0, .int .i64 0, .int .i64 0, .int .i64 0, .int .i64 0, .int .i64 2, .int .i64 5, .slice none 0 0, .slice none 0 0, .int .i64 0, .int .i64 1, .int .i64 0, .int .i64 0, .int .i64 0, .int .i64 0, .int .i64 0, .int .i64 0, .int .i64 0, .int .i64 0, .int .i64 0, .int .i64 0, .int .i64 0, .int .i64 3, .int .i64 1, .slice none 0 0, .slice none 0 0, .int .i64 0, .int .i64 1] 35 (0, 0))) := ⟨_, rfl⟩
  rw [← hwa]
  have HC := Aside0.mk (show Kd.C k35 wa (some ⟨w.heap.size, 0, none⟩) 2 [x0, x1] by
    obtain ⟨c0, k0, e0⟩ := x_cells wa x0 rfl rfl
    obtain ⟨c1, k1, e1⟩ := x_cells wa x1 rfl rfl
    refine two wa w.heap.size c0 c1 x0 x1 k0 k1 (by rw [e0]; rfl) (by rw [e1]; rfl) ?_
    rw [hwa, e0, e1]
    exact blk_new w _)
  have HB := Aside0.mk (show Below w.heap.size w wa by rw [hwa]; exact (Below.refl _ _).alloc (Nat.le_refl _) _)
  clear hwa
  refine (best_c [x0, x1] _ 2 wa HC.out (by decide)).mono ?_
  rintro e w2 ⟨rfl, hb⟩
  have HB2 := Aside0.mk (below_step HB.out hb)
  clear hb
  have e1 : mx (bk [x0, x1] [x0, x1].length) 0 = 1 := by decide
  have e2 : decide (bk [x0, x1] [x0, x1].length ≥ 0) = true := by decide
  rw [e1, e2]
  go_wp2
  go_ret
  exact ⟨rfl, HB2.out⟩
/-- the cells of one log, and the three numbers in them -/
theorem facts {w : World} {x : S35} {cs : List Value} (h : k35.K w x cs) : ∃ (h : cs.toArray.size = 17), cs.toArray[16]'(by omega) = .int .i64 x.f2 ∧ cs.toArray[11]'(by omega) = .int .i64 x.f0.f1 ∧ cs.toArray[12]'(by omega) = .int .i64 x.f0.f2 := by
  obtain ⟨A13, c13, A14, c14, rfl, _⟩ := k35_open h
  exact ⟨rfl, rfl, rfl, rfl⟩
end Go.Proofs.Ytgchdkppjcnkiaa.Newer
