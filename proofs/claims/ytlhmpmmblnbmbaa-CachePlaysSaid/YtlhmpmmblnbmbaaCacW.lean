/- What the cache's functions keep: its struct, its map, its rows; single operations. -/
import Derived.Test.YtlhmpmmblnbmbaaCacM
import Derived.Test.YtlhmpmmblnbmbaaFlowU
import Derived.Test.YtlhmpmmblnbmbaaSortKeys
import Derived.Lib.SliceRun
namespace Go.Proofs.Ytlhmpmmblnbmbaa.Cac
open Go Go.RowKit Go.Proofs.Ytlhmpmmblnbmbaa.PCachePlays Go.Proofs.YtlhmpmmblnbmbaaW.PrintWords Go.Proofs.YtlhmpmmblnbmbaaW.PrintLast Go.Proofs.YtlhmpmmblnbmbaaW.PrintMore Go.Proofs.Ytlhmpmmblnbmbaa.FlowU Go.Proofs.Ytlhmpmmblnbmbaa.Ev Go.Proofs.Ytlhmpmmblnbmbaa.Ke Go.Proofs.Ytlhmpmmblnbmbaa.Cells
def u8R (W : World) (v : Value) (d : List Int) : Prop := (Kd.int .u8).R 5 W 0 (fun _ => True) v d
def Rows (W : World) (m : List Ent) : Prop := ∀ e ∈ m, u8R W e.v e.d
section
variable {W W1 : World} {m l : List Ent} {v : Value} {d : List Int} {g b t : Nat} {cs : Array Value}
theorem u8R.below (h : u8R W v d) (hb : Below W.heap.size W W1) : u8R W1 v d := Kd.R_below h hb
theorem u8R.far (h : u8R W v d) (hk : W.heap[g]? = some (.cells cs t (0, 0))) (ht : t ≠ 5) (hf : ∀ k, k ≠ g → W1.heap[k]? = W.heap[k]?) : u8R W1 v d := R_far h hk (by simp [Kd.int, Kd.scalar]; exact ht) hf
theorem u8R.map (h : u8R W v d) (hm : ∃ es clock, W.heap[b]? = some (.map es clock)) (hg : W.grownBy W1 (some b)) : u8R W1 v d := by
  refine Kd.R_mono (Kd.R_move (Kd.R_bound h) (fun k hk => hg.block k hk.2.2.1 (fun e => ?_))) (fun _ hk => hk.1)
  injection e with e
  subst e
  obtain ⟨_, _, _, q, _, cells, hc⟩ := hk
  obtain ⟨es, clock, hb⟩ := hm
  rw [hb] at hc; cases hc
theorem Rows.below (h : Rows W m) (hb : Below W.heap.size W W1) : Rows W1 m := fun e he => (h e he).below hb
theorem Rows.far (h : Rows W m) (hk : W.heap[g]? = some (.cells cs t (0, 0))) (ht : t ≠ 5) (hf : ∀ k, k ≠ g → W1.heap[k]? = W.heap[k]?) : Rows W1 m := fun e he => (h e he).far hk ht hf
theorem Rows.map (h : Rows W m) (hm : ∃ es clock, W.heap[b]? = some (.map es clock)) (hg : W.grownBy W1 (some b)) : Rows W1 m := fun e he => (h e he).map hm hg
theorem Rows.sub (h : Rows W m) (hs : ∀ e ∈ l, e ∈ m) : Rows W l := fun e he => h e (hs e he)
theorem Rows.cons {e : Ent} (h : Rows W m) (h1 : u8R W e.v e.d) : Rows W (e :: m) := fun x hx => (List.mem_cons.1 hx).elim (fun q => q ▸ h1) (h x)
theorem u8R.slice (h : u8R W v d) : ∃ A c, v = .slice A d.length c := Kd.R_slice h
end
def S2 (gC gM : Nat) (k : Nat) : Prop := k = gC ∨ k = gM
/-- The cache at gC, its map at gM. -/
structure CA (W : World) (gC gM : Nat) (room clock hits misses : Int) (m : List Ent) : Prop where
  cell : W.heap[gC]? = some (.cells #[.map (some gM), .int .i64 room, .int .i64 clock, .int .i64 hits, .int .i64 misses] 83 (0, 0))
  map : MapIs W gM m
  rows : Rows W m
section
variable {W W1 : World} {gC gM g t : Nat} {room clock hits misses : Int} {m : List Ent} {cs : Array Value}
theorem CA.below (h : CA W gC gM room clock hits misses m) (hb : Below W.heap.size W W1) : CA W1 gC gM room clock hits misses m := ⟨blk_below h.cell hb, h.map.below hb, h.rows.below hb⟩
theorem CA.far (h : CA W gC gM room clock hits misses m) (hk : W.heap[g]? = some (.cells cs t (0, 0))) (h5 : t ≠ 5) (h83 : t ≠ 83) (hf : ∀ k, k ≠ g → W1.heap[k]? = W.heap[k]?) : CA W1 gC gM room clock hits misses m := by
  have hne : gC ≠ g := fun e => by
    have := h.cell
    rw [e, hk] at this
    injection this with this
    injection this with _ this _
    exact h83 this
  exact ⟨(hf _ hne).trans h.cell, h.map.of_heap (hf _ (h.map.ne hk)), h.rows.far hk h5 hf⟩
theorem CA.ne (h : CA W gC gM room clock hits misses m) : gM ≠ gC := h.map.ne h.cell
theorem CA.lt (h : CA W gC gM room clock hits misses m) : gC < W.heap.size ∧ gM < W.heap.size := ⟨blk_lt h.cell, h.map.lt⟩
end
section
variable {P : Program} {o : Oper} {a : Act} {w : World} {x y : Operand} {T T' : TypeId}
theorem ptre {p : Addr} (ho : o.op = .binOp .eql 33 x y 33) (hx : a.eval x = .pointer (some p)) (hy : a.eval y = .pointer none) : (execOp a.eval o).run Try.prog w = .ok (.value (.bool false)) w := by
  have hu := Try.underlying33
  unfold execOp
  simp only [ho, hx, hy]
  go_simp
theorem ptrn (ho : o.op = .binOp .eql 33 x y 33) (hx : a.eval x = .pointer none) (hy : a.eval y = .pointer none) : (execOp a.eval o).run Try.prog w = .ok (.value (.bool true)) w := by
  have hu := Try.underlying33
  unfold execOp
  simp only [ho, hx, hy]
  go_simp
theorem ptrne {p : Addr} (ho : o.op = .binOp .neq 33 x y 33) (hx : a.eval x = .pointer (some p)) (hy : a.eval y = .pointer none) : (execOp a.eval o).run Try.prog w = .ok (.value (.bool true)) w := by
  have hu := Try.underlying33
  unfold execOp
  simp only [ho, hx, hy]
  go_simp
theorem ptrnn (ho : o.op = .binOp .neq 33 x y 33) (hx : a.eval x = .pointer none) (hy : a.eval y = .pointer none) : (execOp a.eval o).run Try.prog w = .ok (.value (.bool false)) w := by
  have hu := Try.underlying33
  unfold execOp
  simp only [ho, hx, hy]
  go_simp
/-- A call whose effects are its own. -/
theorem ecall {ops : Array Oper} {rest : List Oper} {Q : Exit → Act → World → Prop} {f : FuncId} {ops2 : Array Operand} {ts : Array TypeId} {fn : Func} {args : Array Value} (hg : o.guard = none) (ho : o.op = .call { callee := .value (.func f), args := ops2, argTypes := ts }) (hf : P.funcs[f]? = some fn) (hname : (fn.name == "runtime.NumGoroutine") = false) (hb : fn.body.isSome = true)
    (ha : ops2.map a.eval = args) {R : Ending → World → Prop} (hc : Calls P f args w R) (h : ∀ e w', R e w' → ∃ v, e = .returned v ∧ wpList P ops Q rest (a.put o.dst v) w') : wpList P ops Q (o :: rest) a w :=
  wpList_plain hg fun _ hK => Flow.val_call ho hf hname hb ha hc (fun e w' hR => by
    obtain ⟨v, he, hw⟩ := h e w' hR
    exact ⟨v, he, hK _ _ hw⟩)
end
end Go.Proofs.Ytlhmpmmblnbmbaa.Cac
