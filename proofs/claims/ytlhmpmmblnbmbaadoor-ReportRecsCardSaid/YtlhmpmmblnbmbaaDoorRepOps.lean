/- Single operations of a drawn region: a cell loaded, a field's address, two texts joined, a row of texts made. -/
import Derived.Test.YtlhmpmmblnbmbaaDoorRepNum
import Derived.Test.YtlhmpmmblnbmbaaDoorFlow
namespace Go.Proofs.YtlhmpmmblnbmbaaDoor.Rep
open Go.Lib Go.RowKit Go.Proofs.YtlhmpmmblnbmbaaDoor.Cells Go.Proofs.YtlhmpmmblnbmbaaDoorW.PrintWords Go.Proofs.YtlhmpmmblnbmbaaDoorW.PrintLast Go.Proofs.YtlhmpmmblnbmbaaDoorW.PrintMore
section
variable {o : Oper} {a : Act}
theorem load_one {w : World} {ty : TypeId} {k : Nat} {ad : Addr} {v : Value} {d : TypeDesc} (ho : o.op = .load ty (.tmp k)) (hx : a.tmps.getD k undef = .pointer (some ad)) (hc : w.cell? ad = some v) (hu : Tryd.prog.underlying ty = some d) (hd : d.isRow = false) : (execOp a.eval o).run Tryd.prog w = .ok (.value v) w := by
  have hx' : a.eval (.tmp k) = .pointer (some ad) := hx
  have hagg : (isAgg ty).run Tryd.prog w = .ok false w := by
    unfold isAgg
    rw [Sem.run_bind, run_underlying hu w]
    cases d <;> simp_all [TypeDesc.isRow]
  unfold execOp
  simp only [ho, hx', Instr.loadAt, Instr.sureAddr, Sem.run_bind, Sem.run_pure, Result.andThen_ok]
  simp [loadVar, Sem.run_bind, hagg, hc]
theorem addr_one {w : World} {t k i g off : Nat} (ho : o.op = .fieldAddr t (.tmp k) i) (hx : a.tmps.getD k undef = .pointer (some ⟨g, 0, none⟩)) (hrun : ∀ w, (Instr.fieldAt t (.pointer (some ⟨g, 0, none⟩)) i).run Tryd.prog w = .ok (.pointer (some ⟨g, off, none⟩)) w) : (execOp a.eval o).run Tryd.prog w = .ok (.value (.pointer (some ⟨g, off, none⟩))) w := by
  have hx' : a.eval (.tmp k) = .pointer (some ⟨g, 0, none⟩) := hx
  unfold execOp
  simp only [ho, hx', Sem.run_bind, hrun, Result.andThen_ok, Sem.run_pure]
theorem cat_one {w : World} {x y : Operand} {s t : ByteArray} (ho : o.op = .binOp .add 9 x y 9) (hx : a.eval x = .string s) (hy : a.eval y = .string t) (hs : s.size + t.size ≤ 9223372036854775807) : (execOp a.eval o).run Tryd.prog w = .ok (.value (.string (s ++ t))) w := by
  have h2 : ¬ 9223372036854775807 < s.size + t.size := by omega
  unfold execOp
  simp only [ho, hx, hy]
  simp [go_sem, h2]
theorem row_four {w : World} {x0 x1 x2 x3 : Operand} {s0 s1 s2 s3 : ByteArray} (ho : o.op = .buildSlice 79 4 #[(0, x0), (1, x1), (2, x2), (3, x3)]) (h0 : a.eval x0 = .string s0) (h1 : a.eval x1 = .string s1) (h2 : a.eval x2 = .string s2) (h3 : a.eval x3 = .string s3) :
    (execOp a.eval o).run Tryd.prog w = .ok (.value (.slice (some ⟨w.heap.size, 0, none⟩) 4 4)) (w.alloc (.cells (([s0, s1, s2, s3] : List ByteArray).map Value.string).toArray 9 (0, 0))) := by
  have hu := Tryd.underlying79
  have hu9 := Tryd.underlying9
  unfold execOp
  simp only [ho, List.map_toArray, List.map_cons, List.map_nil, h0, h1, h2, h3]
  first
  | (go_simp; done)
  | (go_simp; rfl)
end
theorem addr24 (g i : Nat) (hi : i < 3) (w : World) : (Instr.fieldAt 24 (.pointer (some ⟨g, 0, none⟩)) i).run Tryd.prog w = .ok (.pointer (some ⟨g, i, none⟩)) w := by
  have hu := Tryd.underlying24
  rcases i with _ | _ | _ | i
  · go_simp
  · go_simp
  · go_simp
  · omega
end Go.Proofs.YtlhmpmmblnbmbaaDoor.Rep
