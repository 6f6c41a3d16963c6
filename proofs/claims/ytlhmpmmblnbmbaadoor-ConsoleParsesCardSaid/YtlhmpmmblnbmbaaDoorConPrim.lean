/- Single facts of this program: field addresses, literal slices, sizes, zero values. -/
import Derived.Test.YtlhmpmmblnbmbaaDoorKe
import Derived.Test.YtlhmpmmblnbmbaaDoorConParse
namespace Go.Proofs.YtlhmpmmblnbmbaaDoor.Con
open Go.RowKit Go.Proofs.YtlhmpmmblnbmbaaDoor.Ev Go.Proofs.YtlhmpmmblnbmbaaDoor.Cells Go.Proofs.YtlhmpmmblnbmbaaDoorW.PrintWords Go.Proofs.YtlhmpmmblnbmbaaDoorW.PrintLast Go.Proofs.YtlhmpmmblnbmbaaDoorW.PrintMore
theorem fa54_0 (g o : Nat) (w : World) : (Instr.fieldAt 54 (.pointer (some ⟨g, o, none⟩)) 0).run Tryd.prog w = .ok (.pointer (some ⟨g, o, none⟩)) w := by
  have hu := Tryd.underlying54
  go_simp
theorem fad54_0 (ad : Addr) (w : World) : (Instr.fieldAt 54 (.pointer (some ad)) 0).run Tryd.prog w = .ok (.pointer (some (ad.add 0))) w := by
  have hu := Tryd.underlying54
  go_simp
theorem fa54_1 (g o : Nat) (w : World) : (Instr.fieldAt 54 (.pointer (some ⟨g, o, none⟩)) 1).run Tryd.prog w = .ok (.pointer (some ⟨g, o + 1, none⟩)) w := by
  have hu := Tryd.underlying54
  go_simp
theorem fad54_1 (ad : Addr) (w : World) : (Instr.fieldAt 54 (.pointer (some ad)) 1).run Tryd.prog w = .ok (.pointer (some (ad.add 1))) w := by
  have hu := Tryd.underlying54
  go_simp
theorem fa54_2 (g o : Nat) (w : World) : (Instr.fieldAt 54 (.pointer (some ⟨g, o, none⟩)) 2).run Tryd.prog w = .ok (.pointer (some ⟨g, o + 2, none⟩)) w := by
  have hu := Tryd.underlying54
  go_simp
theorem fad54_2 (ad : Addr) (w : World) : (Instr.fieldAt 54 (.pointer (some ad)) 2).run Tryd.prog w = .ok (.pointer (some (ad.add 2))) w := by
  have hu := Tryd.underlying54
  go_simp
theorem fa54_3 (g o : Nat) (w : World) : (Instr.fieldAt 54 (.pointer (some ⟨g, o, none⟩)) 3).run Tryd.prog w = .ok (.pointer (some ⟨g, o + 3, none⟩)) w := by
  have hu := Tryd.underlying54
  go_simp
theorem fad54_3 (ad : Addr) (w : World) : (Instr.fieldAt 54 (.pointer (some ad)) 3).run Tryd.prog w = .ok (.pointer (some (ad.add 3))) w := by
  have hu := Tryd.underlying54
  go_simp
theorem fa54_4 (g o : Nat) (w : World) : (Instr.fieldAt 54 (.pointer (some ⟨g, o, none⟩)) 4).run Tryd.prog w = .ok (.pointer (some ⟨g, o + 4, none⟩)) w := by
  have hu := Tryd.underlying54
  go_simp
theorem fad54_4 (ad : Addr) (w : World) : (Instr.fieldAt 54 (.pointer (some ad)) 4).run Tryd.prog w = .ok (.pointer (some (ad.add 4))) w := by
  have hu := Tryd.underlying54
  go_simp
theorem fa54_5 (g o : Nat) (w : World) : (Instr.fieldAt 54 (.pointer (some ⟨g, o, none⟩)) 5).run Tryd.prog w = .ok (.pointer (some ⟨g, o + 5, none⟩)) w := by
  have hu := Tryd.underlying54
  go_simp
theorem fad54_5 (ad : Addr) (w : World) : (Instr.fieldAt 54 (.pointer (some ad)) 5).run Tryd.prog w = .ok (.pointer (some (ad.add 5))) w := by
  have hu := Tryd.underlying54
  go_simp
theorem fa56_0 (g o : Nat) (w : World) : (Instr.fieldAt 56 (.pointer (some ⟨g, o, none⟩)) 0).run Tryd.prog w = .ok (.pointer (some ⟨g, o, none⟩)) w := by
  have hu := Tryd.underlying56
  go_simp
theorem fad56_0 (ad : Addr) (w : World) : (Instr.fieldAt 56 (.pointer (some ad)) 0).run Tryd.prog w = .ok (.pointer (some (ad.add 0))) w := by
  have hu := Tryd.underlying56
  go_simp
theorem fa56_1 (g o : Nat) (w : World) : (Instr.fieldAt 56 (.pointer (some ⟨g, o, none⟩)) 1).run Tryd.prog w = .ok (.pointer (some ⟨g, o + 1, none⟩)) w := by
  have hu := Tryd.underlying56
  go_simp
theorem fad56_1 (ad : Addr) (w : World) : (Instr.fieldAt 56 (.pointer (some ad)) 1).run Tryd.prog w = .ok (.pointer (some (ad.add 1))) w := by
  have hu := Tryd.underlying56
  go_simp
theorem fa56_2 (g o : Nat) (w : World) : (Instr.fieldAt 56 (.pointer (some ⟨g, o, none⟩)) 2).run Tryd.prog w = .ok (.pointer (some ⟨g, o + 7, none⟩)) w := by
  have hu := Tryd.underlying56
  go_simp
theorem fad56_2 (ad : Addr) (w : World) : (Instr.fieldAt 56 (.pointer (some ad)) 2).run Tryd.prog w = .ok (.pointer (some (ad.add 7))) w := by
  have hu := Tryd.underlying56
  go_simp
theorem fa56_3 (g o : Nat) (w : World) : (Instr.fieldAt 56 (.pointer (some ⟨g, o, none⟩)) 3).run Tryd.prog w = .ok (.pointer (some ⟨g, o + 8, none⟩)) w := by
  have hu := Tryd.underlying56
  go_simp
theorem fad56_3 (ad : Addr) (w : World) : (Instr.fieldAt 56 (.pointer (some ad)) 3).run Tryd.prog w = .ok (.pointer (some (ad.add 8))) w := by
  have hu := Tryd.underlying56
  go_simp
theorem fa56_4 (g o : Nat) (w : World) : (Instr.fieldAt 56 (.pointer (some ⟨g, o, none⟩)) 4).run Tryd.prog w = .ok (.pointer (some ⟨g, o + 9, none⟩)) w := by
  have hu := Tryd.underlying56
  go_simp
theorem fad56_4 (ad : Addr) (w : World) : (Instr.fieldAt 56 (.pointer (some ad)) 4).run Tryd.prog w = .ok (.pointer (some (ad.add 9))) w := by
  have hu := Tryd.underlying56
  go_simp
theorem size3 : (Tryd.prog.info? 3).map (·.size) = some 1 := by kernel_rfl
theorem size4 : (Tryd.prog.info? 4).map (·.size) = some 1 := by kernel_rfl
theorem size43 : (Tryd.prog.info? 43).map (·.size) = some 1 := by kernel_rfl
theorem size54 : (Tryd.prog.info? 54).map (·.size) = some 6 := by kernel_rfl
theorem size104 : (Tryd.prog.info? 104).map (·.size) = some 3 := by kernel_rfl
theorem zero54_is : (Tryd.prog.info? 54).map (·.zero) = some (some (.agg #[.int .i64 0, .int .i64 0, .int .i64 0, .int .i64 0, .slice none 0 0, .bool false])) := by kernel_rfl
theorem zero56_is : (Tryd.prog.info? 56).map (·.zero) = some (some (.agg #[.int .i64 0, .int .i64 0, .int .i64 0, .int .i64 0, .int .i64 0, .slice none 0 0, .bool false, .int .i64 0, .int .i64 0, .slice none 0 0])) := by kernel_rfl
theorem zero104_is : (Tryd.prog.info? 104).map (·.zero) = some (some (.agg #[.int .i64 0, .int .i64 0, .int .i64 0])) := by kernel_rfl
theorem arr104_l : Tryd.prog.arrayLen 104 = 3 := by kernel_rfl
theorem arr104_e : Tryd.prog.elem 104 = 3 := by kernel_rfl
theorem arr104_u : Tryd.prog.underlying 104 = some (.array (Tryd.prog.arrayLen 104) (Tryd.prog.elem 104)) := by rw [arr104_l, arr104_e]; exact Tryd.underlying104
theorem bld54_0 {o : Oper} {a : Act} {w : World} {x0 : Operand} {i : Int} (ho : o.op = .build 54 #[(0, x0)]) (h0 : a.eval x0 = .int .i64 i) : (execOp a.eval o).run Tryd.prog w = .ok (.value (.agg #[.int .i64 i, .int .i64 0, .int .i64 0, .int .i64 0, .slice none 0 0, .bool false])) w := by
  have hu := Tryd.underlying54
  unfold execOp
  simp only [ho, List.map_toArray, List.map_cons, List.map_nil, h0]
  clear ho h0
  first
  | (go_simp; done)
  | (go_simp; rfl)
theorem bld56_0_1 {o : Oper} {a : Act} {w : World} {x0 x1 : Operand} {i c z t n : Int} {d : Value} {f : Bool} (ho : o.op = .build 56 #[(0, x0), (1, x1)]) (h0 : a.eval x0 = .int .i64 i) (h1 : a.eval x1 = .agg #[.int .i64 c, .int .i64 z, .int .i64 t, .int .i64 n, d, .bool f]) : (execOp a.eval o).run Tryd.prog w = .ok (.value (.agg #[.int .i64 i, .int .i64 c, .int .i64 z, .int .i64 t, .int .i64 n, d, .bool f, .int .i64 0, .int .i64 0, .slice none 0 0])) w := by
  have hu := Tryd.underlying56
  have hu2 := Tryd.underlying54
  unfold execOp
  simp only [ho, List.map_toArray, List.map_cons, List.map_nil, h0, h1]
  clear ho h0 h1
  first
  | (go_simp; done)
  | (go_simp; rfl)
theorem bldz56 {o : Oper} {a : Act} {w : World} (ho : o.op = .build 56 #[]) : (execOp a.eval o).run Tryd.prog w = .ok (.value (.agg #[.int .i64 0, .int .i64 0, .int .i64 0, .int .i64 0, .int .i64 0, .slice none 0 0, .bool false, .int .i64 0, .int .i64 0, .slice none 0 0])) w := by
  have hu := Tryd.underlying56
  have hu2 := Tryd.underlying54
  unfold execOp
  simp only [ho]
  clear ho
  first
  | (go_simp; done)
  | (go_simp; rfl)
end Go.Proofs.YtlhmpmmblnbmbaaDoor.Con
