/- Single operations, each by one lemma: what an operation yields, under the least that it asks. -/
import Derived.Test.YtlhmpmmblnbmbaaCells
import Derived.Test.YtlhmpmmblnbmbaaFlow
namespace Go.Proofs.Ytlhmpmmblnbmbaa.Ev
open Go.RowKit Go.Proofs.YtlhmpmmblnbmbaaW.PrintWords Go.Proofs.YtlhmpmmblnbmbaaW.PrintLast Go.Proofs.YtlhmpmmblnbmbaaW.PrintMore Go.Proofs.Ytlhmpmmblnbmbaa.Cells
section
variable {P : Program} {o : Oper} {a : Act} {w : World} {x y : Operand} {T T' : TypeId} {k : IntKind} {i j : Int} {s t : ByteArray}
theorem ld {ty : TypeId} {ad : Addr} {v : Value} {d : TypeDesc} (ho : o.op = .load ty x) (hx : a.eval x = .pointer (some ad)) (hc : w.cell? ad = some v) (hu : P.underlying ty = some d) (hd : d.isRow = false) : (execOp a.eval o).run P w = .ok (.value v) w := by
  have hagg : (isAgg ty).run P w = .ok false w := by
    unfold isAgg
    rw [Sem.run_bind, run_underlying hu w]
    cases d <;> simp_all [TypeDesc.isRow]
  unfold execOp
  simp only [ho, hx, Instr.loadAt, Instr.sureAddr, Sem.run_bind, Sem.run_pure, Result.andThen_ok]
  simp [loadVar, Sem.run_bind, hagg, hc]
theorem ldrow {ty : TypeId} {ad : Addr} {c : List Value} {d : TypeDesc} (ho : o.op = .load ty x) (hx : a.eval x = .pointer (some ad)) (hc : Lies w ad c) (hu : P.underlying ty = some d) (hd : d.isRow = true) (hi : (P.info? ty).map (·.size) = some c.length) : (execOp a.eval o).run P w = .ok (.value (.agg c.toArray)) w := by
  unfold execOp
  simp only [ho, hx, Instr.loadAt, Instr.sureAddr, Sem.run_bind, Sem.run_pure, Result.andThen_ok, run_load_at hc hu hd hi]
theorem fa {i : Nat} {p q : Option Addr} (ho : o.op = .fieldAddr T x i) (hx : a.eval x = .pointer p) (hrun : (Instr.fieldAt T (.pointer p) i).run P w = .ok (.pointer q) w) : (execOp a.eval o).run P w = .ok (.value (.pointer q)) w := by
  unfold execOp
  simp only [ho, hx, Sem.run_bind, hrun, Result.andThen_ok, Sem.run_pure]
theorem cat {m n : Nat} (ho : o.op = .binOp .add T x y T') (hx : a.eval x = .string s) (hy : a.eval y = .string t) (hs : s.size ≤ m) (ht : t.size ≤ n) (h : m + n ≤ 9223372036854775807) : (execOp a.eval o).run P w = .ok (.value (.string (s ++ t))) w := by
  have h2 : ¬ 9223372036854775807 < s.size + t.size := by omega
  unfold execOp
  simp only [ho, hx, hy]
  simp [go_sem, h2]
theorem szapp {x y : ByteArray} {a b c : Nat} (hx : x.size ≤ a) (hy : y.size ≤ b) (h : a + b ≤ c) : (x ++ y).size ≤ c := by
  rw [ByteArray.size_append]; omega
-- integers
theorem lss (ho : o.op = .binOp .lss T x y T') (hx : a.eval x = .int k i) (hy : a.eval y = .int k j) : (execOp a.eval o).run P w = .ok (.value (.bool (decide (i < j)))) w := by
  unfold execOp
  simp only [ho, hx, hy]
  simp [go_sem]
theorem leq (ho : o.op = .binOp .leq T x y T') (hx : a.eval x = .int k i) (hy : a.eval y = .int k j) : (execOp a.eval o).run P w = .ok (.value (.bool (decide (i ≤ j)))) w := by
  unfold execOp
  simp only [ho, hx, hy]
  simp [go_sem]
theorem gtr (ho : o.op = .binOp .gtr T x y T') (hx : a.eval x = .int k i) (hy : a.eval y = .int k j) : (execOp a.eval o).run P w = .ok (.value (.bool (decide (i > j)))) w := by
  unfold execOp
  simp only [ho, hx, hy]
  simp [go_sem]
theorem geq (ho : o.op = .binOp .geq T x y T') (hx : a.eval x = .int k i) (hy : a.eval y = .int k j) : (execOp a.eval o).run P w = .ok (.value (.bool (decide (i ≥ j)))) w := by
  unfold execOp
  simp only [ho, hx, hy]
  simp [go_sem]
theorem eql (ho : o.op = .binOp .eql T x y T') (hx : a.eval x = .int k i) (hy : a.eval y = .int k j) : (execOp a.eval o).run P w = .ok (.value (.bool (i == j))) w := by
  unfold execOp
  simp only [ho, hx, hy]
  simp [go_sem]
theorem neq (ho : o.op = .binOp .neq T x y T') (hx : a.eval x = .int k i) (hy : a.eval y = .int k j) : (execOp a.eval o).run P w = .ok (.value (.bool (i != j))) w := by
  unfold execOp
  simp only [ho, hx, hy]
  simp [go_sem]
theorem yes {b : Bool} (h : (execOp a.eval o).run P w = .ok (.value (.bool b)) w) (hb : b = true) : (execOp a.eval o).run P w = .ok (.value (.bool true)) w := hb ▸ h
theorem no {b : Bool} (h : (execOp a.eval o).run P w = .ok (.value (.bool b)) w) (hb : b = false) : (execOp a.eval o).run P w = .ok (.value (.bool false)) w := hb ▸ h
theorem add (ho : o.op = .binOp .add T x y T') (hx : a.eval x = .int .i64 i) (hy : a.eval y = .int .i64 j) (h0 : -9223372036854775808 ≤ i + j) (h1 : i + j ≤ 9223372036854775807) : (execOp a.eval o).run P w = .ok (.value (.int .i64 (i + j))) w := by
  have h2 : IntKind.i64.wrap (i + j) = i + j := IntWalk.i64_in _ ⟨h0, h1⟩
  unfold execOp
  simp only [ho, hx, hy]
  simp [go_sem, h2]
theorem addw (ho : o.op = .binOp .add T x y T') (hx : a.eval x = .int .i64 i) (hy : a.eval y = .int .i64 j) : (execOp a.eval o).run P w = .ok (.value (.int .i64 (IntKind.i64.wrap (i + j)))) w := by
  unfold execOp
  simp only [ho, hx, hy]
  simp [go_sem]
theorem seq (ho : o.op = .binOp .eql T x y T') (hx : a.eval x = .string s) (hy : a.eval y = .string t) (h : s = t) : (execOp a.eval o).run P w = .ok (.value (.bool true)) w := by
  subst h
  unfold execOp
  simp only [ho, hx, hy]
  simp [go_sem]
theorem lenS (hT : P.underlying T = some .string) (ho : o.op = .call { callee := .builtin .len, args := #[x], argTypes := #[T] }) (hx : a.eval x = .string s) : (execOp a.eval o).run P w = .ok (.value (.int .i64 s.size)) w := by
  have h : (Builtin.len_ #[T] o.type #[.string s]).run P w = .ok (.int .i64 s.size) w := by
    unfold Builtin.len_
    simp only [List.getElem?_toArray, List.getElem?_cons_zero, Sem.run_bind, run_underlying hT w, Result.andThen_ok, Sem.run_pure, goInt]
  unfold execOp
  simp only [ho, resolve, invoke, builtin, Sem.run_bind, Sem.run_pure, Result.andThen_ok, List.map_toArray, List.map_cons, List.map_nil, hx, h]
theorem lenL {e : TypeId} {A : Option Addr} {n c : Nat} (hT : P.underlying T = some (.slice e)) (ho : o.op = .call { callee := .builtin .len, args := #[x], argTypes := #[T] }) (hx : a.eval x = .slice A n c) : (execOp a.eval o).run P w = .ok (.value (.int .i64 n)) w := by
  have h : (Builtin.len_ #[T] o.type #[.slice A n c]).run P w = .ok (.int .i64 n) w := by
    unfold Builtin.len_
    simp only [List.getElem?_toArray, List.getElem?_cons_zero, Sem.run_bind, run_underlying hT w, Result.andThen_ok, Sem.run_pure, goInt]
  unfold execOp
  simp only [ho, resolve, invoke, builtin, Sem.run_bind, Sem.run_pure, Result.andThen_ok, List.map_toArray, List.map_cons, List.map_nil, hx, h]
theorem ix {e : TypeId} {ad : Addr} {n c m : Nat} {i : Nat} (hT : P.underlying T = some (.slice e)) (hs : (P.info? e).map (·.size) = some m) (ho : o.op = .indexAddr T x y) (hx : a.eval x = .slice (some ad) n c) (hy : a.eval y = .int .i64 i) (h : i < n) : (execOp a.eval o).run P w = .ok (.value (.pointer (some (ad.add (i * m))))) w := by
  obtain ⟨inf, hi, hz⟩ := Option.map_eq_some_iff.1 hs
  have h1 : (0 : Int) ≤ i ∧ (i : Int) < n := by omega
  have hr : (Instr.indexAt T (.slice (some ad) n c) (.int .i64 i)).run P w = .ok (.pointer (some (ad.add (i * m)))) w := by
    unfold Instr.indexAt
    simp only [Sem.run_bind, run_underlying hT w, Result.andThen_ok, Sem.run_pure, asIntOf]
    rw [if_pos h1]
    simp [sizeOf, typeInfo, hi, hz, Sem.run_bind]
  unfold execOp
  simp only [ho, hx, hy, Sem.run_bind, hr, Result.andThen_ok, Sem.run_pure]
end
/-- A slice over a block of its own that is new since B. -/
def SliceAt (cs : Array Value) (T n B : Nat) (v : Value) (w : World) : Prop := ∃ g, v = .slice (some ⟨g, 0, none⟩) n n ∧ B ≤ g ∧ w.heap[g]? = some (.cells cs T (0, 0))
theorem slice_below {cs : Array Value} {T n B : Nat} {v : Value} {w w1 : World} (h : SliceAt cs T n B v w) (hb : Below w.heap.size w w1) : SliceAt cs T n B v w1 := by
  obtain ⟨g, h1, h2, h3⟩ := h
  exact ⟨g, h1, h2, blk_below h3 hb⟩
theorem slice_new {cs : Array Value} {T n B : Nat} {w : World} (h : B ≤ w.heap.size) : SliceAt cs T n B (.slice (some ⟨w.heap.size, 0, none⟩) n n) (w.alloc (.cells cs T (0, 0))) := ⟨_, rfl, h, blk_new _ _⟩
section
variable {P : Program} {ops : Array Oper} {rest : List Oper} {o : Oper} {a : Act} {Q : Exit → Act → World → Prop} {w : World} {T : TypeId}
theorem lies_part {g o : Nat} {cs : Array Value} {c : List Value} {w : World} (h : w.heap[g]? = some (.cells cs T (0, 0))) (hc : (cs.toList.drop o).take c.length = c) : Lies w ⟨g, o, none⟩ c := fun j u hj => by
  rw [Addr.add_mid, cell_of_row w g (o + j) _ _ _ h]
  rw [← hc] at hj
  have hl : j < c.length := by
    have := (List.getElem?_eq_some_iff.1 hj).1
    rw [List.length_take] at this; omega
  rw [List.getElem?_take_of_lt hl, List.getElem?_drop, Array.getElem?_toList] at hj
  exact hj
theorem row_cell {α : Type} (enc : α → Value) (d : α) {g k : Nat} {l : List α} {w : World} (h : w.heap[g]? = some (.cells (l.map enc).toArray T (0, 0))) (hk : k < l.length) : w.cell? ⟨g, k, none⟩ = some (enc (l.getD k d)) := by
  refine (blk_cell h k).trans ?_
  rw [List.getElem?_toArray, List.getElem?_map, List.getD_eq_getElem?_getD, List.getElem?_eq_getElem hk]; rfl
theorem row_C {α : Type} (enc : α → Value) (d : α) (h1 : ∀ x, (enc x).oneCell' = true) {g : Nat} {l : List α} {w : World} (h : w.heap[g]? = some (.cells (l.map enc).toArray T (0, 0))) (hm : l.length ≤ 9223372036854775807) : (Kd.scalar enc h1).C w (some ⟨g, 0, none⟩) l.length l :=
  Kd.C_of_reads (d := d) ⟨rfl, hm, fun _ => ⟨_, rfl, fun j hj => by rw [add_plain]; exact row_cell enc d h hj⟩⟩
theorem ixr {e : TypeId} {x y : Operand} {g n c : Nat} {i : Nat} (hT : P.underlying T = some (.slice e)) (hs : (P.info? e).map (·.size) = some 1) (ho : o.op = .indexAddr T x y) (hx : a.eval x = .slice (some ⟨g, 0, none⟩) n c) (hy : a.eval y = .int .i64 i) (h : i < n) : (execOp a.eval o).run P w = .ok (.value (.pointer (some ⟨g, i, none⟩))) w := by
  have := ix (w := w) hT hs ho hx hy h
  rw [add_plain, Nat.mul_one] at this
  exact this
theorem napp {α : Type} {xs ys : List α} {n m : Nat} (h : xs.length ≤ n) (h2 : ys.length = m) : (xs ++ ys).length ≤ n + m := by rw [List.length_append]; omega
theorem is {b c : Bool} {o : Oper} {a : Act} {w : World} (h : (execOp a.eval o).run P w = .ok (.value (.bool b)) w) (hb : b = c) : (execOp a.eval o).run P w = .ok (.value (.bool c)) w := hb ▸ h
/-- A literal row, to be appended to. -/
theorem R_row {α : Type} (enc : α → Value) (h1 : ∀ x, (enc x).oneCell' = true) {g base : Nat} {l : List α} {w : World} (h : w.heap[g]? = some (.cells (l.map enc).toArray T (0, 0))) (hg : base ≤ g) (hm : l.length ≤ maxLen) : (Kd.scalar enc h1).R T w base (fun _ => True) (.slice (some ⟨g, 0, none⟩) l.length l.length) l :=
  Kd.R_of_own ⟨by simp [encs], .inr ⟨g, l.length, _, rfl, hg, h, Nat.le_refl _, hm, by simp, by rw [Nat.mul_one, encs]; exact List.take_of_length_le (by simp)⟩⟩ (fun _ _ => trivial)
/-- A block of another type was written. -/
theorem R_far {α : Type} {d : Kd α} {e base : Nat} {ok : Nat → Prop} {v : Value} {xs : List α} {w w1 : World} {g t : Nat} {cs : Array Value} (h : d.R e w base ok v xs) (hk : w.heap[g]? = some (.cells cs t (0, 0))) (ht : t ∉ e :: d.E) (hfar : ∀ k, k ≠ g → w1.heap[k]? = w.heap[k]?) : d.R e w1 base ok v xs :=
  Kd.R_mono (Kd.R_move (Kd.R_bound h) (fun k hk2 => hfar k (by
    rintro rfl
    obtain ⟨_, _, _, q, hq, cells, hc⟩ := hk2
    rw [hk] at hc
    injection hc with hc
    injection hc with _ hc _
    exact ht (hc ▸ hq)))) (fun _ hk2 => hk2.1)
/-- append of a row that lies whole in a block. -/
theorem eapp {α : Type} (enc : α → Value) (d : α) {h1 : ∀ x, (enc x).oneCell' = true} {w0 : World} {base : Nat} (hgd : o.guard = none) {s x : Operand} {t e : TypeId} {z : Value} {bytes : Nat}
    (ho : o.op = .call { callee := .builtin .append, args := #[s, x], argTypes := #[t, t] })
    (ht : P.underlying t = some (.slice e)) (hinfo : (P.info? e).map (fun i => (i.zero, i.size, i.bytes)) = some (some z, 1, bytes)) (hz : z.cells.size = 1) (hb0 : 0 < bytes)
    {v : Value} {xs ys : List α} {g : Nat} (hs : a.eval s = v) (hx : a.eval x = .slice (some ⟨g, 0, none⟩) ys.length ys.length)
    (HO : (Kd.scalar enc h1).R e w base (fun _ => True) v xs) (HY : w.heap[g]? = some (.cells (ys.map enc).toArray e (0, 0))) (HB : Below base w0 w) (hbase : base ≤ w.heap.size) (hl : (xs.length + ys.length) * bytes ≤ 140737488355328)
    (h : ∀ v1 w1, (Kd.scalar enc h1).R e w1 base (fun _ => True) v1 (xs ++ ys) → Below base w0 w1 → w.grownBy w1 v.ownBlock → wpList P ops Q rest (a.put o.dst v1) w1) : wpList P ops Q (o :: rest) a w := by
  have hm : ys.length ≤ 9223372036854775807 := by
    have := Nat.le_mul_of_pos_right (xs.length + ys.length) hb0
    omega
  exact Kd.R_append_row enc d base hgd s x t e z bytes ho ht hinfo hz hb0 v xs ys _ _ _ (fun _ => True) hs hx (fun _ _ => trivial) HO (row_C enc d h1 HY hm) HB hbase hl (fun v1 w1 a1 a2 a3 _ => h v1 w1 a1 a2 a3)
theorem ebox {v : Value} {x : Operand} (hgd : o.guard = none) (ho : o.op = .box T x) (hx : a.eval x = v)
    (h : ∀ g, g = w.heap.size → ∀ w1, w1.heap[g]? = some (.cells v.cells T (0, 0)) → Below w.heap.size w w1 → wpList P ops Q rest (a.put o.dst (.pointer (some ⟨g, 0, none⟩))) w1) : wpList P ops Q (o :: rest) a w := by
  refine Kd.event_run hgd (w1 := w.alloc (.cells v.cells T (0, 0))) (v := .pointer (some ⟨w.heap.size, 0, none⟩)) ?_ (h _ rfl _ (blk_new w _) (below_alloc (Below.refl _ _) _))
  unfold execOp
  simp only [ho, hx]
  simp [Instr.box, newVar, newRow, go_sem]
theorem ealloc {z : Value} (hgd : o.guard = none) (ho : o.op = .alloc T) (hz : (P.info? T).map (·.zero) = some (some z))
    (h : ∀ g, g = w.heap.size → ∀ w1, w1.heap[g]? = some (.cells z.cells T (0, 0)) → Below w.heap.size w w1 → wpList P ops Q rest (a.put o.dst (.pointer (some ⟨g, 0, none⟩))) w1) : wpList P ops Q (o :: rest) a w := by
  obtain ⟨i, hi, hzz⟩ := Option.map_eq_some_iff.1 hz
  refine Kd.event_run hgd (w1 := w.alloc (.cells z.cells T (0, 0))) (v := .pointer (some ⟨w.heap.size, 0, none⟩)) ?_ (h _ rfl _ (blk_new w _) (below_alloc (Below.refl _ _) _))
  unfold execOp
  simp only [ho]
  simp [zeroValue, typeInfo, hi, hzz, newVar, newRow, Sem.run_bind, go_sem]
end
section
variable {P : Program} {o : Oper} {a : Act} {w : World} {x y z : Operand} {T T' : TypeId} {k k' : IntKind} {i j : Int} {s t : ByteArray}
theorem shr4 (ho : o.op = .binOp .shr T x y T') (hx : a.eval x = .int .u8 i) (hy : a.eval y = .int .u64 4) : (execOp a.eval o).run P w = .ok (.value (.int .u8 (i / 16))) w := by
  unfold execOp
  simp only [ho, hx, hy]
  go_simp
theorem and15 (ho : o.op = .binOp .and T x y T') (hx : a.eval x = .int .u8 i) (hy : a.eval y = .int .u8 j) : (execOp a.eval o).run P w = .ok (.value (.int .u8 (bits .and .u8 i j))) w := by
  unfold execOp
  simp only [ho, hx, hy]
  simp [go_sem]
theorem strix (hT : P.underlying T = some .string) (ho : o.op = .index T x y) (hx : a.eval x = .string s) (hy : a.eval y = .int k i) (h0 : 0 ≤ i) (h1 : i < s.size) : (execOp a.eval o).run P w = .ok (.value (.int .u8 (bt s i))) w := by
  have h2 : i.toNat < s.size := by omega
  have hb : ((s[i.toNat]'h2).toNat : Int) = bt s i := bt_at s i h2
  unfold execOp
  simp only [ho, hx, hy]
  go_simp
theorem cv8 (hT : P.underlying T = some (.int .u8)) (hT' : P.underlying T' = some (.int .i64)) (ho : o.op = .convert T T' x) (hx : a.eval x = .int .u8 i) (h0 : 0 ≤ i) (h1 : i ≤ 255) : (execOp a.eval o).run P w = .ok (.value (.int .i64 i)) w := by
  unfold execOp
  simp only [ho, hx]
  go_simp
  exact IntWalk.i64_in _ ⟨by omega, by omega⟩
theorem quo16 (ho : o.op = .binOp .quo T x y T') (hx : a.eval x = .int .i64 i) (hy : a.eval y = .int .i64 16) (h0 : 0 ≤ i) (h1 : i ≤ 255) : (execOp a.eval o).run P w = .ok (.value (.int .i64 (i / 16))) w := by
  unfold execOp
  simp only [ho, hx, hy]
  go_simp
  rw [Int.tdiv_eq_ediv_of_nonneg h0]
  exact IntWalk.i64_in _ ⟨by omega, by omega⟩
theorem rem16 (ho : o.op = .binOp .rem T x y T') (hx : a.eval x = .int .i64 i) (hy : a.eval y = .int .i64 16) (h0 : 0 ≤ i) : (execOp a.eval o).run P w = .ok (.value (.int .i64 (i % 16))) w := by
  unfold execOp
  simp only [ho, hx, hy]
  go_simp
  exact Int.tmod_eq_emod_of_nonneg h0
theorem cvs {A : Option Addr} {n c : Nat} (ho : o.op = .convert T T' x) (hx : a.eval x = .slice A n c) (hrun : (convert T T' (.slice A n c)).run P w = .ok (.string s) w) : (execOp a.eval o).run P w = .ok (.value (.string s)) w := by
  unfold execOp
  simp only [ho, hx, Sem.run_bind, hrun, Result.andThen_ok, Sem.run_pure]
theorem cut1 (hT : P.underlying T = some .string) (ho : o.op = .slice T x (some y) (some z) none) (hx : a.eval x = .string s) (hy : a.eval y = .int .i64 i) (hz : a.eval z = .int .i64 j) (h0 : 0 ≤ i) (h1 : i ≤ j) (h2 : j ≤ s.size) : (execOp a.eval o).run P w = .ok (.value (.string (s.extract i.toNat j.toNat))) w := by
  have hr := run_slice_string (P := P) w T s .i64 .i64 i j hT h0 h1 h2
  unfold execOp
  simp only [ho, hx, Option.map_some, Option.map_none, hy, hz]
  unfold Instr.sliceAt
  simp only [Sem.run_bind, run_underlying hT w, Result.andThen_ok, hr, Sem.run_pure]
end
end Go.Proofs.Ytlhmpmmblnbmbaa.Ev
