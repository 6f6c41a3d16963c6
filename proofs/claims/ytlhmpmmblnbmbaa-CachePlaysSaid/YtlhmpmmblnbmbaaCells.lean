/- Small laws for walks whose structs are rows of cells under one letter: a whole struct loaded, a variable made, a whole struct stored. -/
import Derived.Test.YtlhmpmmblnbmbaaWMore
import Derived.Laws.Rows
import Derived.Deep.MidRow
namespace Go.Proofs.Ytlhmpmmblnbmbaa.Cells
open Go.RowKit Go.Proofs.YtlhmpmmblnbmbaaW.PrintWords Go.Proofs.YtlhmpmmblnbmbaaW.PrintLast Go.Proofs.YtlhmpmmblnbmbaaW.PrintMore
variable {P : Program} {ops : Array Oper} {rest : List Oper} {o : Oper} {a : Act} {Q : Exit → Act → World → Prop}
/-- The cells of a struct that begins at an address. -/
def Lies (w : World) (ad : Addr) (c : List Value) : Prop := ∀ j u, c[j]? = some u → w.cell? (ad.add j) = some u
theorem run_load_at {w : World} {ad : Addr} {ty : TypeId} {c : List Value} {d : TypeDesc} (hc : Lies w ad c) (hu : P.underlying ty = some d) (hd : d.isRow = true) (hi : (P.info? ty).map (·.size) = some c.length) :
    (loadVar ty ad).run P w = .ok (.agg c.toArray) w := by
  have hl : (loadCells ad c.length).run P w = .ok c.toArray w := run_loadCells_list (P := P) w ad c hc
  cases hq : P.info? ty with
  | none => simp [hq] at hi
  | some i =>
    have hs : i.size = c.length := by simpa [hq] using hi
    have hagg : (isAgg ty).run P w = .ok true w := by
      unfold isAgg
      rw [Sem.run_bind, run_underlying hu w]
      cases d <;> simp_all
    simp [loadVar, Sem.run_bind, hagg, sizeOf, typeInfo, hq, hs, hl]
theorem load_at {w : World} (hgd : o.guard = none) (ty : TypeId) (x : Operand) (ho : o.op = .load ty x) (ad : Addr) (hx : a.eval x = .pointer (some ad)) (c : List Value) (d : TypeDesc) (hc : Lies w ad c)
    (hu : P.underlying ty = some d) (hd : d.isRow = true) (hi : (P.info? ty).map (·.size) = some c.length) (h : wpList P ops Q rest (a.put o.dst (.agg c.toArray)) w) : wpList P ops Q (o :: rest) a w :=
  Kd.event_run hgd (by
    unfold execOp
    simp only [ho, hx, Instr.loadAt, Instr.sureAddr, Sem.run_bind, Sem.run_pure, Result.andThen_ok, run_load_at hc hu hd hi]) h
theorem lies_block {w : World} {g : Nat} {t : TypeId} {c : List Value} (h : w.heap[g]? = some (.cells c.toArray t (0, 0))) : Lies w ⟨g, 0, none⟩ c := fun j u hj => by
  rw [Addr.add_mid, Nat.zero_add, cell_of_row w g j _ _ _ h]; simpa using hj
theorem lies_below {w w1 : World} {ad : Addr} {c : List Value} (h : Lies w ad c) (hb : Below w.heap.size w w1) : Lies w1 ad c := fun j u hj => by
  have h1 := h j u hj
  have hlt : (ad.add j).block < w.heap.size := block_lt_of_cell h1
  rw [hb.cell hlt]; exact h1
/-- A store of a whole struct into a block that is known whole. -/
theorem store_event {w : World} (hgd : o.guard = none) (hN : o.dst = none) (ty : TypeId) (x y : Operand) (ho : o.op = .store ty x y) (g : Nat) (c : List Value) (cs0 : Array Value) (hx : a.eval x = .pointer (some ⟨g, 0, none⟩)) (hy : a.eval y = .agg c.toArray)
    (hg : w.heap[g]? = some (.cells cs0 ty (0, 0))) (hs : cs0.size = c.length) (hi : (P.info? ty).map (·.size) = some c.length) (h1 : ∀ v ∈ c, v.oneCell' = true)
    (h : ∀ w1, w1.heap[g]? = some (.cells c.toArray ty (0, 0)) → (∀ k, k ≠ g → w1.heap[k]? = w.heap[k]?) → (∀ B, B ≤ g → Below B w w1) → wpList P ops Q rest a w1) : wpList P ops Q (o :: rest) a w := by
  have hrun := run_storeVar_mid (P := P) w g 0 ty c.toArray (fun j hj => by
    rw [Nat.zero_add, cell_of_row w g j _ _ _ hg]
    have hj' : j < cs0.size := by simpa [hs] using hj
    exact ⟨by simp [Array.getElem?_eq_getElem hj'], by simp [World.frozen?, hg]⟩) (by simpa using hi) (all_oneCell_toArray h1)
  obtain ⟨cur', hc1, hc2, hc3⟩ := setCells_row c 0 w cs0 hg (by omega)
  have e : cur' = c.toArray := by
    apply Array.toList_inj.1
    rw [hc3]; simp [List.drop_eq_nil_of_le, hs]
  subst e
  obtain ⟨s1, s2, s3, s4⟩ := setCells_same g c 0 w
  refine wpList_plain hgd fun K hK => ?_
  unfold Oper.wp execOp
  simp only [ho, hx, hy, Instr.storeAt, Instr.sureAddr, Sem.run_bind, Sem.run_pure, Result.andThen_ok]
  rw [hrun]
  simp only [Result.andThen_ok]
  have := hK (a.put o.dst undef) (w.setCells g 0 c) (by
    rw [hN]
    exact h _ hc1 (fun k hk => setCells_far c 0 k hk) (fun B hB => ⟨s1, s2, s3, by rw [s4]; exact Nat.le_refl _, fun k hk => setCells_far c 0 k (by omega)⟩))
  exact this
/-- The same, the cells' check as one Bool. -/
theorem store_whole {w : World} (hgd : o.guard = none) (hN : o.dst = none) (ty : TypeId) (x y : Operand) (ho : o.op = .store ty x y) (g : Nat) (c : List Value) (cs0 : Array Value) (hx : a.eval x = .pointer (some ⟨g, 0, none⟩)) (hy : a.eval y = .agg c.toArray)
    (hg : w.heap[g]? = some (.cells cs0 ty (0, 0))) (hs : cs0.size = c.length) (hi : (P.info? ty).map (·.size) = some c.length) (h1 : c.all (·.oneCell') = true)
    (h : ∀ w1, w1.heap[g]? = some (.cells c.toArray ty (0, 0)) → (∀ k, k ≠ g → w1.heap[k]? = w.heap[k]?) → (∀ B, B ≤ g → Below B w w1) → wpList P ops Q rest a w1) : wpList P ops Q (o :: rest) a w :=
  store_event hgd hN ty x y ho g c cs0 hx hy hg hs hi (fun v hv => List.all_eq_true.1 h1 v hv) h
theorem alloc_event {W : World} (hgd : o.guard = none) {N : Tmp} (_hd : o.dst = some N) (t : TypeId) (ho : o.op = .alloc t) (z : Value) (hz : (P.info? t).map (·.zero) = some (some z))
    (h : ∀ g, g = W.heap.size → ∀ w1, w1.heap[g]? = some (.cells z.cells t (0, 0)) → Below W.heap.size W w1 → wpList P ops Q rest (a.put o.dst (.pointer (some ⟨g, 0, none⟩))) w1) : wpList P ops Q (o :: rest) a W := by
  obtain ⟨i, hi, hzz⟩ := Option.map_eq_some_iff.1 hz
  refine Kd.event_run hgd (w1 := W.alloc (.cells z.cells t (0, 0))) (v := .pointer (some ⟨W.heap.size, 0, none⟩)) ?_ (h _ rfl _ (blk_new W _) (below_alloc (Below.refl _ _) _))
  unfold execOp
  simp only [ho]
  simp [zeroValue, typeInfo, hi, hzz, newVar, newRow, Sem.run_bind, go_sem]
/-- An operation of a plain region that is carried out. -/
theorem wantL {w : World} (hw : Region.wanted o (yielded ops a.tmps) = true) (h : o.wp P a w (wpList P ops Q rest) Q) : wpList P ops Q (o :: rest) a w := by
  unfold wpList
  rw [if_pos hw]
  exact .inl h
theorem spareL {w : World} (hw : Region.wanted o (yielded ops a.tmps) = false) (h : wpList P ops Q rest (a.put o.dst undef) w) : wpList P ops Q (o :: rest) a w := by
  unfold wpList
  rw [if_neg (by simp [hw])]
  exact h
/-- A whole struct loaded out of a block that is known whole. -/
theorem run_load_row {w : World} {ty : TypeId} {k g : Nat} {t : TypeId} {cs : Array Value} {fr : Nat × Nat} {d : TypeDesc} (ho : o.op = .load ty (.tmp k)) (hx : a.tmps.getD k undef = .pointer (some ⟨g, 0, none⟩))
    (hu : P.underlying ty = some d) (hd : d.isRow = true) (hi : (P.info? ty).map (·.size) = some cs.size) (hg : w.heap[g]? = some (.cells cs t fr)) : (execOp a.eval o).run P w = .ok (.value (.agg cs)) w := by
  have hx' : a.eval (.tmp k) = .pointer (some ⟨g, 0, none⟩) := hx
  unfold execOp
  simp only [ho, hx', Instr.loadAt, Instr.sureAddr, Sem.run_bind, Sem.run_pure, Result.andThen_ok, run_loadVar_row (P := P) w g t ty cs fr d hg hu (by cases d <;> simp_all) hi]
theorem run_load_lies {w : World} {ty : TypeId} {k : Nat} {ad : Addr} {c : List Value} {d : TypeDesc} (ho : o.op = .load ty (.tmp k)) (hx : a.tmps.getD k undef = .pointer (some ad))
    (hu : P.underlying ty = some d) (hd : d.isRow = true) (hi : (P.info? ty).map (·.size) = some c.length) (hc : Lies w ad c) : (execOp a.eval o).run P w = .ok (.value (.agg c.toArray)) w := by
  have hx' : a.eval (.tmp k) = .pointer (some ad) := hx
  unfold execOp
  simp only [ho, hx', Instr.loadAt, Instr.sureAddr, Sem.run_bind, Sem.run_pure, Result.andThen_ok, run_load_at hc hu hd hi]
/-- A literal '[]T{..}': its block under a letter. -/
theorem slice_event {W : World} (hgd : o.guard = none) {N : Tmp} (_hd : o.dst = some N) {cs : Array Value} {t : TypeId} {n : Nat}
    (hrun : (execOp a.eval o).run P W = .ok (.value (.slice (some ⟨W.heap.size, 0, none⟩) n n)) (W.alloc (.cells cs t (0, 0))))
    (h : ∀ g, g = W.heap.size → ∀ w1, w1.heap[g]? = some (.cells cs t (0, 0)) → Below W.heap.size W w1 → wpList P ops Q rest (a.put o.dst (.slice (some ⟨g, 0, none⟩) n n)) w1) : wpList P ops Q (o :: rest) a W :=
  Kd.event_run hgd hrun (h _ rfl _ (blk_new W _) (below_alloc (Below.refl _ _) _))
theorem size_al (w : World) (A : Obj) : (w.alloc A).heap.size = w.heap.size + 1 := by simp
theorem al0 (w : World) (A B C : Obj) : (((w.alloc A).alloc B).alloc C).heap[w.heap.size]? = some A := blk_alloc (blk_alloc (blk_new w A) B) C
theorem al1 (w : World) (A B C : Obj) : (((w.alloc A).alloc B).alloc C).heap[w.heap.size + 1]? = some B := by
  have h := blk_alloc (blk_new (w.alloc A) B) C
  rwa [size_al] at h
theorem al2 (w : World) (A B C : Obj) : (((w.alloc A).alloc B).alloc C).heap[w.heap.size + 2]? = some C := by
  have h := blk_new ((w.alloc A).alloc B) C
  rwa [size_al, size_al] at h
end Go.Proofs.Ytlhmpmmblnbmbaa.Cells
