/- Stores of single cells into a block that is known whole, in any order: Flow's E. -/
import Derived.Test.YtlhmpmmblnbmbaaEv
import Derived.Deep.MidRow
namespace Go.Proofs.Ytlhmpmmblnbmbaa.Ke
open Go.Lib Go.RowKit Go.Proofs.Ytlhmpmmblnbmbaa.Ev Go.Proofs.Ytlhmpmmblnbmbaa.Cells Go.Proofs.YtlhmpmmblnbmbaaW.PrintWords Go.Proofs.YtlhmpmmblnbmbaaW.PrintLast Go.Proofs.YtlhmpmmblnbmbaaW.PrintMore
variable {P : Program} {o : Oper} {a : Act}
theorem store1 {ty t : TypeId} {x y : Operand} {g p : Nat} {v : Value} {cs : Array Value} {w : World} (ho : o.op = .store ty x y) (hx : a.eval x = .pointer (some ⟨g, p, none⟩)) (hy : a.eval y = v) (hv : v.oneCell' = true)
    (hi : (P.info? ty).map (·.size) = some 1) (hk : w.heap[g]? = some (.cells cs t (0, 0))) (hp : p < cs.size) : (execOp a.eval o).run P w = .ok .skip (w.setCell ⟨g, p, none⟩ v) := by
  have hc : v.cells = #[v] := by cases v <;> first | rfl | (simp [Value.oneCell'] at hv)
  have hcell : w.cell? ⟨g, p, none⟩ = some (cs[p]'hp) := by rw [blk_cell hk p]; simp [hp]
  have := run_storeCells_cells (P := P) g p [v] 0 w (fun j hj => by obtain rfl : j = 0 := by simp at hj; omega
                                                                    rw [show (⟨g, p + 0 + 0, none⟩ : Addr) = ⟨g, p, none⟩ from rfl, hcell]; rfl) (fun j hj => by simp [World.frozen?, hk]) (fun u hu => by simp at hu; rw [hu]; exact hv)
  unfold execOp
  simp only [ho, hx, hy, Instr.storeAt, Instr.sureAddr, Sem.run_bind, Sem.run_pure, Result.andThen_ok]
  cases hq : P.info? ty with
  | none => simp [hq] at hi
  | some i =>
    have hs : i.size = 1 := by simp [hq] at hi; omega
    simp only [Nat.add_zero] at this
    simp [storeVar, sizeOf, typeInfo, hq, hc, hs, this, World.setCells]
/-- Nothing but the block g has turned, and a cell of it that has its last value keeps it. -/
def Ke (g : Nat) (t : TypeId) (F : List Value) (base : Nat) (u v : World) : Prop :=
  Below base u v ∧ (∀ k, k ≠ g → k < u.heap.size → v.heap[k]? = u.heap[k]?) ∧ ∀ cs : Array Value, u.heap[g]? = some (.cells cs t (0, 0)) → ∃ cs' : Array Value, v.heap[g]? = some (.cells cs' t (0, 0)) ∧ cs'.size = cs.size ∧ ∀ p : Nat, cs[p]? = F[p]? → cs'[p]? = F[p]?
def Has (g : Nat) (t : TypeId) (F : List Value) (p : Nat) (w : World) : Prop := ∃ cs : Array Value, w.heap[g]? = some (.cells cs t (0, 0)) ∧ cs.size = F.length ∧ cs[p]? = F[p]?
variable {g : Nat} {t : TypeId} {F : List Value} {base : Nat} {u v w : World}
theorem Ke.refl : Ke g t F base w w := ⟨Below.refl _ _, fun _ _ _ => rfl, fun cs h => ⟨cs, h, rfl, fun _ h => h⟩⟩
theorem Ke.trans (h : Ke g t F base u v) (k : Ke g t F base v w) : Ke g t F base u w := by
  refine ⟨h.1.trans k.1, fun i hi hlt => (k.2.1 i hi (Nat.lt_of_lt_of_le hlt h.1.size)).trans (h.2.1 i hi hlt), fun cs hc => ?_⟩
  obtain ⟨c1, h1, h2, h3⟩ := h.2.2 cs hc
  obtain ⟨c2, k1, k2, k3⟩ := k.2.2 c1 h1
  exact ⟨c2, k1, k2.trans h2, fun p hp => k3 p (h3 p hp)⟩
theorem Ke.drew : Ke g t F base w w.drew := ⟨(Below.refl _ _).drew, fun _ _ _ => rfl, fun cs h => ⟨cs, h, rfl, fun _ h => h⟩⟩
theorem Has.keep {p : Nat} (h : Has g t F p u) (k : Ke g t F base u v) : Has g t F p v := by
  obtain ⟨cs, h1, h2, h3⟩ := h
  obtain ⟨c1, k1, k2, k3⟩ := k.2.2 cs h1
  exact ⟨c1, k1, k2.trans h2, k3 p h3⟩
theorem Ke.blk {k : Nat} {O : Obj} (h : Ke g t F base u v) (hk : k ≠ g) (hb : u.heap[k]? = some O) : v.heap[k]? = some O := (h.2.1 k hk (Array.getElem?_eq_some_iff.1 hb).1).trans hb
/-- one store -/
theorem Has.put {p q : Nat} {x : Value} (h : Has g t F q w) (hp : F[p]? = some x) (hb : base ≤ g) : Ke g t F base w (w.setCell ⟨g, p, none⟩ x) ∧ Has g t F p (w.setCell ⟨g, p, none⟩ x) := by
  obtain ⟨cs, h1, h2, h3⟩ := h
  have hlt : p < cs.size := by rw [h2]; exact (List.getElem?_eq_some_iff.1 hp).1
  have hn : ∀ c : Array Value, w.heap[g]? = some (.cells c t (0, 0)) → (w.setCell ⟨g, p, none⟩ x).heap[g]? = some (.cells (c.setIfInBounds p x) t (0, 0)) := fun c hc => blk_put hc p x rfl
  refine ⟨⟨(Below.refl _ _).setCell hb x, fun k hk _ => Below.heap_setCell _ _ _ _ hk, fun c hc => ⟨_, hn c hc, by simp, fun i hi => ?_⟩⟩, ⟨_, hn cs h1, by simpa using h2, by rw [hp]; simp [hlt]⟩⟩
  rw [Array.getElem?_setIfInBounds]
  split
  · rename_i e
    subst e
    have hs : c.size = cs.size := by
      rw [h1] at hc; injection hc with hc; injection hc with hc; rw [hc]
    rw [if_pos (by omega), hp]
  · exact hi
theorem Has.lt {p : Nat} (h : Has g t F p w) : ∃ cs : Array Value, w.heap[g]? = some (.cells cs t (0, 0)) ∧ cs.size = F.length := by
  obtain ⟨cs, h1, h2, _⟩ := h; exact ⟨cs, h1, h2⟩
theorem has_of {cs : Array Value} (h : w.heap[g]? = some (.cells cs t (0, 0))) (hs : cs.size = F.length) (p : Nat) (hp : cs[p]? = F[p]?) : Has g t F p w := ⟨cs, h, hs, hp⟩
theorem has_all (hl : 0 < F.length) (h : ∀ p, p < F.length → Has g t F p w) : w.heap[g]? = some (.cells F.toArray t (0, 0)) := by
  obtain ⟨cs, h1, h2, _⟩ := h 0 hl
  rw [h1]
  congr 2
  apply Array.toList_inj.1
  rw [List.toList_toArray]
  apply List.ext_getElem?
  intro p
  by_cases hp : p < F.length
  · obtain ⟨c, k1, k2, k3⟩ := h p hp
    rw [h1] at k1; injection k1 with k1; injection k1 with k1; subst k1
    rw [Array.getElem?_toList]; exact k3
  · rw [List.getElem?_eq_none (by simp; omega), List.getElem?_eq_none (by simp; omega)]
/-- A store into one cell, in its place in the order: the block is known before and behind it. -/
theorem put_event (hgd : o.guard = none) (hN : o.dst = none) {ops : Array Oper} {Q : Exit → Act → World → Prop} {rest : List Oper} (ty : TypeId) (x y : Operand) (ho : o.op = .store ty x y) (g p : Nat) (v : Value) (cs cs1 : Array Value) (hx : a.eval x = .pointer (some ⟨g, p, none⟩)) (hy : a.eval y = v) (hv : v.oneCell' = true)
    (hi : (P.info? ty).map (·.size) = some 1) (hk : w.heap[g]? = some (.cells cs t (0, 0))) (hp : p < cs.size) (he : cs.setIfInBounds p v = cs1)
    (h : ∀ w1, w1.heap[g]? = some (.cells cs1 t (0, 0)) → (∀ k, k ≠ g → w1.heap[k]? = w.heap[k]?) → (∀ B, B ≤ g → Below B w w1) → wpList P ops Q rest a w1) : wpList P ops Q (o :: rest) a w := by
  refine wpList_plain hgd fun K hK => ?_
  refine Flow.skip_run (store1 (v := v) ho hx hy hv hi hk hp) (hK _ _ ?_)
  rw [hN]
  exact h _ (he ▸ blk_put hk p v rfl) (fun k hk => Below.heap_setCell _ _ _ _ hk) (fun B hB => (Below.refl _ _).setCell hB v)
theorem sneq {T T' : TypeId} {x y : Operand} {s t : ByteArray} {b : Bool} (ho : o.op = .binOp .neq T x y T') (hx : a.eval x = .string s) (hy : a.eval y = .string t) (h : (s.toList != t.toList) = b) : (execOp a.eval o).run P w = .ok (.value (.bool b)) w := by
  subst h
  unfold execOp
  simp only [ho, hx, hy]
  go_simp
  simp [bne]
theorem seqb {T T' : TypeId} {x y : Operand} {s t : ByteArray} {b : Bool} (ho : o.op = .binOp .eql T x y T') (hx : a.eval x = .string s) (hy : a.eval y = .string t) (h : (s.toList == t.toList) = b) : (execOp a.eval o).run P w = .ok (.value (.bool b)) w := by
  subst h
  unfold execOp
  simp only [ho, hx, hy]
  go_simp
/-- An element of an array's variable. -/
theorem ixa {T : TypeId} {x y : Operand} {g p m i : Nat} {e : TypeId} (hT : P.underlying T = some (.array (P.arrayLen T) (P.elem T))) (hl : P.arrayLen T = m) (he : P.elem T = e) (hs : (P.info? e).map (·.size) = some 1) (ho : o.op = .indexAddr T x y) (hx : a.eval x = .pointer (some ⟨g, p, none⟩)) (hy : a.eval y = .int .i64 i) (h : i < m) : (execOp a.eval o).run P w = .ok (.value (.pointer (some ⟨g, p + i, none⟩))) w := by
  unfold execOp
  simp only [ho, hx, hy]
  have hr := run_indexAt_array (P := P) (w := w) T ⟨g, p, none⟩ .i64 i hT
  rw [hl, if_pos (by omega), he] at hr
  cases hq : P.info? e with
  | none => simp [hq] at hs
  | some i2 =>
    have hz : i2.size = 1 := by simp [hq] at hs; omega
    simp only [Sem.run_bind]
    rw [show (Instr.indexAt T (.pointer (some ⟨g, p, none⟩)) (.int .i64 i)).run P w = .ok (.pointer (some ⟨g, p + i, none⟩)) w by
      rw [hr]; simp [sizeOf, typeInfo, hq, hz, Addr.add]]
    rfl
theorem extr {x : Operand} {k : Nat} {vs : Array Value} {v : Value} (ho : o.op = .extract x k) (hx : a.eval x = .tuple vs) (hv : vs[k]? = some v) : (execOp a.eval o).run P w = .ok (.value v) w := by
  unfold execOp
  simp only [ho, hx]
  simp [Instr.extract, hv]
theorem addk {T T' : TypeId} {x y : Operand} {i j k : Int} (ho : o.op = .binOp .add T x y T') (hx : a.eval x = .int .i64 i) (hy : a.eval y = .int .i64 j) (h : i + j = k) (h0 : -9223372036854775808 ≤ k) (h1 : k ≤ 9223372036854775807) : (execOp a.eval o).run P w = .ok (.value (.int .i64 k)) w := by
  subst h; exact add ho hx hy h0 h1
theorem subk {T T' : TypeId} {x y : Operand} {i j k : Int} (ho : o.op = .binOp .sub T x y T') (hx : a.eval x = .int .i64 i) (hy : a.eval y = .int .i64 j) (h : i - j = k) (h0 : -9223372036854775808 ≤ k) (h1 : k ≤ 9223372036854775807) : (execOp a.eval o).run P w = .ok (.value (.int .i64 k)) w := by
  subst h
  have h2 : IntKind.i64.wrap (i - j) = i - j := IntWalk.i64_in _ ⟨h0, h1⟩
  unfold execOp
  simp only [ho, hx, hy]
  simp [go_sem, h2]
theorem beqb {T T' : TypeId} {x y : Operand} {b c : Bool} (hT : P.underlying T = some .bool) (ho : o.op = .binOp .eql T x y T') (hx : a.eval x = .bool b) (hy : a.eval y = .bool c) : (execOp a.eval o).run P w = .ok (.value (.bool (b == c))) w := by
  unfold execOp
  simp only [ho, hx, hy]
  simp [go_sem, hT]
/-- The head of a slice. -/
theorem headk {x z : Operand} {A : Option Addr} {n c m : Nat} {T e : TypeId} (hT : P.underlying T = some (.slice e)) (hrun : (Instr.slice T (.slice A n c) none (some (.int .i64 (m : Int))) none).run P w = .ok (.slice A m c) w) (ho : o.op = .slice T x none (some z) none) (hx : a.eval x = .slice A n c) (hz : a.eval z = .int .i64 m) : (execOp a.eval o).run P w = .ok (.value (.slice A m c)) w := by
  unfold execOp
  simp only [ho, hx, hz, Option.map_some, Option.map_none]
  simp only [Sem.run_bind, Instr.sliceAt, run_underlying hT, Result.andThen_ok]
  rw [hrun]
  simp
end Go.Proofs.Ytlhmpmmblnbmbaa.Ke
