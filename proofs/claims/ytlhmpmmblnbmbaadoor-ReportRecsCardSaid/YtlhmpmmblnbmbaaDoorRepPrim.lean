/- Single facts of this program: field addresses, literal slices, sizes, zero values. -/
import Derived.Test.YtlhmpmmblnbmbaaDoorEv
import Derived.Test.YtlhmpmmblnbmbaaDoorRep
namespace Go.Proofs.YtlhmpmmblnbmbaaDoor.Rep
open Go.RowKit Go.Proofs.YtlhmpmmblnbmbaaDoor.Ev Go.Proofs.YtlhmpmmblnbmbaaDoor.Cells Go.Proofs.YtlhmpmmblnbmbaaDoorW.PrintWords Go.Proofs.YtlhmpmmblnbmbaaDoorW.PrintLast Go.Proofs.YtlhmpmmblnbmbaaDoorW.PrintMore
theorem fa24_0 (g o : Nat) (w : World) : (Instr.fieldAt 24 (.pointer (some ⟨g, o, none⟩)) 0).run Tryd.prog w = .ok (.pointer (some ⟨g, o, none⟩)) w := by
  have hu := Tryd.underlying24
  go_simp
theorem fad24_0 (ad : Addr) (w : World) : (Instr.fieldAt 24 (.pointer (some ad)) 0).run Tryd.prog w = .ok (.pointer (some (ad.add 0))) w := by
  have hu := Tryd.underlying24
  go_simp
theorem fa24_1 (g o : Nat) (w : World) : (Instr.fieldAt 24 (.pointer (some ⟨g, o, none⟩)) 1).run Tryd.prog w = .ok (.pointer (some ⟨g, o + 1, none⟩)) w := by
  have hu := Tryd.underlying24
  go_simp
theorem fad24_1 (ad : Addr) (w : World) : (Instr.fieldAt 24 (.pointer (some ad)) 1).run Tryd.prog w = .ok (.pointer (some (ad.add 1))) w := by
  have hu := Tryd.underlying24
  go_simp
theorem fa24_2 (g o : Nat) (w : World) : (Instr.fieldAt 24 (.pointer (some ⟨g, o, none⟩)) 2).run Tryd.prog w = .ok (.pointer (some ⟨g, o + 2, none⟩)) w := by
  have hu := Tryd.underlying24
  go_simp
theorem fad24_2 (ad : Addr) (w : World) : (Instr.fieldAt 24 (.pointer (some ad)) 2).run Tryd.prog w = .ok (.pointer (some (ad.add 2))) w := by
  have hu := Tryd.underlying24
  go_simp
theorem fa34_0 (g o : Nat) (w : World) : (Instr.fieldAt 34 (.pointer (some ⟨g, o, none⟩)) 0).run Tryd.prog w = .ok (.pointer (some ⟨g, o, none⟩)) w := by
  have hu := Tryd.underlying34
  go_simp
theorem fad34_0 (ad : Addr) (w : World) : (Instr.fieldAt 34 (.pointer (some ad)) 0).run Tryd.prog w = .ok (.pointer (some (ad.add 0))) w := by
  have hu := Tryd.underlying34
  go_simp
theorem fa34_1 (g o : Nat) (w : World) : (Instr.fieldAt 34 (.pointer (some ⟨g, o, none⟩)) 1).run Tryd.prog w = .ok (.pointer (some ⟨g, o + 1, none⟩)) w := by
  have hu := Tryd.underlying34
  go_simp
theorem fad34_1 (ad : Addr) (w : World) : (Instr.fieldAt 34 (.pointer (some ad)) 1).run Tryd.prog w = .ok (.pointer (some (ad.add 1))) w := by
  have hu := Tryd.underlying34
  go_simp
theorem fa34_2 (g o : Nat) (w : World) : (Instr.fieldAt 34 (.pointer (some ⟨g, o, none⟩)) 2).run Tryd.prog w = .ok (.pointer (some ⟨g, o + 2, none⟩)) w := by
  have hu := Tryd.underlying34
  go_simp
theorem fad34_2 (ad : Addr) (w : World) : (Instr.fieldAt 34 (.pointer (some ad)) 2).run Tryd.prog w = .ok (.pointer (some (ad.add 2))) w := by
  have hu := Tryd.underlying34
  go_simp
theorem fa34_3 (g o : Nat) (w : World) : (Instr.fieldAt 34 (.pointer (some ⟨g, o, none⟩)) 3).run Tryd.prog w = .ok (.pointer (some ⟨g, o + 3, none⟩)) w := by
  have hu := Tryd.underlying34
  go_simp
theorem fad34_3 (ad : Addr) (w : World) : (Instr.fieldAt 34 (.pointer (some ad)) 3).run Tryd.prog w = .ok (.pointer (some (ad.add 3))) w := by
  have hu := Tryd.underlying34
  go_simp
theorem fa34_4 (g o : Nat) (w : World) : (Instr.fieldAt 34 (.pointer (some ⟨g, o, none⟩)) 4).run Tryd.prog w = .ok (.pointer (some ⟨g, o + 4, none⟩)) w := by
  have hu := Tryd.underlying34
  go_simp
theorem fad34_4 (ad : Addr) (w : World) : (Instr.fieldAt 34 (.pointer (some ad)) 4).run Tryd.prog w = .ok (.pointer (some (ad.add 4))) w := by
  have hu := Tryd.underlying34
  go_simp
theorem fa34_5 (g o : Nat) (w : World) : (Instr.fieldAt 34 (.pointer (some ⟨g, o, none⟩)) 5).run Tryd.prog w = .ok (.pointer (some ⟨g, o + 5, none⟩)) w := by
  have hu := Tryd.underlying34
  go_simp
theorem fad34_5 (ad : Addr) (w : World) : (Instr.fieldAt 34 (.pointer (some ad)) 5).run Tryd.prog w = .ok (.pointer (some (ad.add 5))) w := by
  have hu := Tryd.underlying34
  go_simp
theorem fa34_6 (g o : Nat) (w : World) : (Instr.fieldAt 34 (.pointer (some ⟨g, o, none⟩)) 6).run Tryd.prog w = .ok (.pointer (some ⟨g, o + 6, none⟩)) w := by
  have hu := Tryd.underlying34
  go_simp
theorem fad34_6 (ad : Addr) (w : World) : (Instr.fieldAt 34 (.pointer (some ad)) 6).run Tryd.prog w = .ok (.pointer (some (ad.add 6))) w := by
  have hu := Tryd.underlying34
  go_simp
theorem fa34_7 (g o : Nat) (w : World) : (Instr.fieldAt 34 (.pointer (some ⟨g, o, none⟩)) 7).run Tryd.prog w = .ok (.pointer (some ⟨g, o + 7, none⟩)) w := by
  have hu := Tryd.underlying34
  go_simp
theorem fad34_7 (ad : Addr) (w : World) : (Instr.fieldAt 34 (.pointer (some ad)) 7).run Tryd.prog w = .ok (.pointer (some (ad.add 7))) w := by
  have hu := Tryd.underlying34
  go_simp
theorem fa34_8 (g o : Nat) (w : World) : (Instr.fieldAt 34 (.pointer (some ⟨g, o, none⟩)) 8).run Tryd.prog w = .ok (.pointer (some ⟨g, o + 8, none⟩)) w := by
  have hu := Tryd.underlying34
  go_simp
theorem fad34_8 (ad : Addr) (w : World) : (Instr.fieldAt 34 (.pointer (some ad)) 8).run Tryd.prog w = .ok (.pointer (some (ad.add 8))) w := by
  have hu := Tryd.underlying34
  go_simp
theorem fa34_9 (g o : Nat) (w : World) : (Instr.fieldAt 34 (.pointer (some ⟨g, o, none⟩)) 9).run Tryd.prog w = .ok (.pointer (some ⟨g, o + 9, none⟩)) w := by
  have hu := Tryd.underlying34
  go_simp
theorem fad34_9 (ad : Addr) (w : World) : (Instr.fieldAt 34 (.pointer (some ad)) 9).run Tryd.prog w = .ok (.pointer (some (ad.add 9))) w := by
  have hu := Tryd.underlying34
  go_simp
theorem fa34_10 (g o : Nat) (w : World) : (Instr.fieldAt 34 (.pointer (some ⟨g, o, none⟩)) 10).run Tryd.prog w = .ok (.pointer (some ⟨g, o + 10, none⟩)) w := by
  have hu := Tryd.underlying34
  go_simp
theorem fad34_10 (ad : Addr) (w : World) : (Instr.fieldAt 34 (.pointer (some ad)) 10).run Tryd.prog w = .ok (.pointer (some (ad.add 10))) w := by
  have hu := Tryd.underlying34
  go_simp
theorem fa38_0 (g o : Nat) (w : World) : (Instr.fieldAt 38 (.pointer (some ⟨g, o, none⟩)) 0).run Tryd.prog w = .ok (.pointer (some ⟨g, o, none⟩)) w := by
  have hu := Tryd.underlying38
  go_simp
theorem fad38_0 (ad : Addr) (w : World) : (Instr.fieldAt 38 (.pointer (some ad)) 0).run Tryd.prog w = .ok (.pointer (some (ad.add 0))) w := by
  have hu := Tryd.underlying38
  go_simp
theorem fa38_1 (g o : Nat) (w : World) : (Instr.fieldAt 38 (.pointer (some ⟨g, o, none⟩)) 1).run Tryd.prog w = .ok (.pointer (some ⟨g, o + 11, none⟩)) w := by
  have hu := Tryd.underlying38
  go_simp
theorem fad38_1 (ad : Addr) (w : World) : (Instr.fieldAt 38 (.pointer (some ad)) 1).run Tryd.prog w = .ok (.pointer (some (ad.add 11))) w := by
  have hu := Tryd.underlying38
  go_simp
theorem fa38_2 (g o : Nat) (w : World) : (Instr.fieldAt 38 (.pointer (some ⟨g, o, none⟩)) 2).run Tryd.prog w = .ok (.pointer (some ⟨g, o + 12, none⟩)) w := by
  have hu := Tryd.underlying38
  go_simp
theorem fad38_2 (ad : Addr) (w : World) : (Instr.fieldAt 38 (.pointer (some ad)) 2).run Tryd.prog w = .ok (.pointer (some (ad.add 12))) w := by
  have hu := Tryd.underlying38
  go_simp
theorem fa38_3 (g o : Nat) (w : World) : (Instr.fieldAt 38 (.pointer (some ⟨g, o, none⟩)) 3).run Tryd.prog w = .ok (.pointer (some ⟨g, o + 13, none⟩)) w := by
  have hu := Tryd.underlying38
  go_simp
theorem fad38_3 (ad : Addr) (w : World) : (Instr.fieldAt 38 (.pointer (some ad)) 3).run Tryd.prog w = .ok (.pointer (some (ad.add 13))) w := by
  have hu := Tryd.underlying38
  go_simp
theorem fa38_4 (g o : Nat) (w : World) : (Instr.fieldAt 38 (.pointer (some ⟨g, o, none⟩)) 4).run Tryd.prog w = .ok (.pointer (some ⟨g, o + 14, none⟩)) w := by
  have hu := Tryd.underlying38
  go_simp
theorem fad38_4 (ad : Addr) (w : World) : (Instr.fieldAt 38 (.pointer (some ad)) 4).run Tryd.prog w = .ok (.pointer (some (ad.add 14))) w := by
  have hu := Tryd.underlying38
  go_simp
theorem fa45_0 (g o : Nat) (w : World) : (Instr.fieldAt 45 (.pointer (some ⟨g, o, none⟩)) 0).run Tryd.prog w = .ok (.pointer (some ⟨g, o, none⟩)) w := by
  have hu := Tryd.underlying45
  go_simp
theorem fad45_0 (ad : Addr) (w : World) : (Instr.fieldAt 45 (.pointer (some ad)) 0).run Tryd.prog w = .ok (.pointer (some (ad.add 0))) w := by
  have hu := Tryd.underlying45
  go_simp
theorem fa45_1 (g o : Nat) (w : World) : (Instr.fieldAt 45 (.pointer (some ⟨g, o, none⟩)) 1).run Tryd.prog w = .ok (.pointer (some ⟨g, o + 1, none⟩)) w := by
  have hu := Tryd.underlying45
  go_simp
theorem fad45_1 (ad : Addr) (w : World) : (Instr.fieldAt 45 (.pointer (some ad)) 1).run Tryd.prog w = .ok (.pointer (some (ad.add 1))) w := by
  have hu := Tryd.underlying45
  go_simp
theorem fa45_2 (g o : Nat) (w : World) : (Instr.fieldAt 45 (.pointer (some ⟨g, o, none⟩)) 2).run Tryd.prog w = .ok (.pointer (some ⟨g, o + 2, none⟩)) w := by
  have hu := Tryd.underlying45
  go_simp
theorem fad45_2 (ad : Addr) (w : World) : (Instr.fieldAt 45 (.pointer (some ad)) 2).run Tryd.prog w = .ok (.pointer (some (ad.add 2))) w := by
  have hu := Tryd.underlying45
  go_simp
theorem fa45_3 (g o : Nat) (w : World) : (Instr.fieldAt 45 (.pointer (some ⟨g, o, none⟩)) 3).run Tryd.prog w = .ok (.pointer (some ⟨g, o + 3, none⟩)) w := by
  have hu := Tryd.underlying45
  go_simp
theorem fad45_3 (ad : Addr) (w : World) : (Instr.fieldAt 45 (.pointer (some ad)) 3).run Tryd.prog w = .ok (.pointer (some (ad.add 3))) w := by
  have hu := Tryd.underlying45
  go_simp
theorem fa45_4 (g o : Nat) (w : World) : (Instr.fieldAt 45 (.pointer (some ⟨g, o, none⟩)) 4).run Tryd.prog w = .ok (.pointer (some ⟨g, o + 4, none⟩)) w := by
  have hu := Tryd.underlying45
  go_simp
theorem fad45_4 (ad : Addr) (w : World) : (Instr.fieldAt 45 (.pointer (some ad)) 4).run Tryd.prog w = .ok (.pointer (some (ad.add 4))) w := by
  have hu := Tryd.underlying45
  go_simp
theorem fa45_5 (g o : Nat) (w : World) : (Instr.fieldAt 45 (.pointer (some ⟨g, o, none⟩)) 5).run Tryd.prog w = .ok (.pointer (some ⟨g, o + 5, none⟩)) w := by
  have hu := Tryd.underlying45
  go_simp
theorem fad45_5 (ad : Addr) (w : World) : (Instr.fieldAt 45 (.pointer (some ad)) 5).run Tryd.prog w = .ok (.pointer (some (ad.add 5))) w := by
  have hu := Tryd.underlying45
  go_simp
theorem fa45_6 (g o : Nat) (w : World) : (Instr.fieldAt 45 (.pointer (some ⟨g, o, none⟩)) 6).run Tryd.prog w = .ok (.pointer (some ⟨g, o + 6, none⟩)) w := by
  have hu := Tryd.underlying45
  go_simp
theorem fad45_6 (ad : Addr) (w : World) : (Instr.fieldAt 45 (.pointer (some ad)) 6).run Tryd.prog w = .ok (.pointer (some (ad.add 6))) w := by
  have hu := Tryd.underlying45
  go_simp
theorem fa45_7 (g o : Nat) (w : World) : (Instr.fieldAt 45 (.pointer (some ⟨g, o, none⟩)) 7).run Tryd.prog w = .ok (.pointer (some ⟨g, o + 7, none⟩)) w := by
  have hu := Tryd.underlying45
  go_simp
theorem fad45_7 (ad : Addr) (w : World) : (Instr.fieldAt 45 (.pointer (some ad)) 7).run Tryd.prog w = .ok (.pointer (some (ad.add 7))) w := by
  have hu := Tryd.underlying45
  go_simp
theorem fa45_8 (g o : Nat) (w : World) : (Instr.fieldAt 45 (.pointer (some ⟨g, o, none⟩)) 8).run Tryd.prog w = .ok (.pointer (some ⟨g, o + 8, none⟩)) w := by
  have hu := Tryd.underlying45
  go_simp
theorem fad45_8 (ad : Addr) (w : World) : (Instr.fieldAt 45 (.pointer (some ad)) 8).run Tryd.prog w = .ok (.pointer (some (ad.add 8))) w := by
  have hu := Tryd.underlying45
  go_simp
theorem fa45_9 (g o : Nat) (w : World) : (Instr.fieldAt 45 (.pointer (some ⟨g, o, none⟩)) 9).run Tryd.prog w = .ok (.pointer (some ⟨g, o + 9, none⟩)) w := by
  have hu := Tryd.underlying45
  go_simp
theorem fad45_9 (ad : Addr) (w : World) : (Instr.fieldAt 45 (.pointer (some ad)) 9).run Tryd.prog w = .ok (.pointer (some (ad.add 9))) w := by
  have hu := Tryd.underlying45
  go_simp
theorem fa48_0 (g o : Nat) (w : World) : (Instr.fieldAt 48 (.pointer (some ⟨g, o, none⟩)) 0).run Tryd.prog w = .ok (.pointer (some ⟨g, o, none⟩)) w := by
  have hu := Tryd.underlying48
  go_simp
theorem fad48_0 (ad : Addr) (w : World) : (Instr.fieldAt 48 (.pointer (some ad)) 0).run Tryd.prog w = .ok (.pointer (some (ad.add 0))) w := by
  have hu := Tryd.underlying48
  go_simp
theorem fa48_1 (g o : Nat) (w : World) : (Instr.fieldAt 48 (.pointer (some ⟨g, o, none⟩)) 1).run Tryd.prog w = .ok (.pointer (some ⟨g, o + 1, none⟩)) w := by
  have hu := Tryd.underlying48
  go_simp
theorem fad48_1 (ad : Addr) (w : World) : (Instr.fieldAt 48 (.pointer (some ad)) 1).run Tryd.prog w = .ok (.pointer (some (ad.add 1))) w := by
  have hu := Tryd.underlying48
  go_simp
theorem fa48_2 (g o : Nat) (w : World) : (Instr.fieldAt 48 (.pointer (some ⟨g, o, none⟩)) 2).run Tryd.prog w = .ok (.pointer (some ⟨g, o + 2, none⟩)) w := by
  have hu := Tryd.underlying48
  go_simp
theorem fad48_2 (ad : Addr) (w : World) : (Instr.fieldAt 48 (.pointer (some ad)) 2).run Tryd.prog w = .ok (.pointer (some (ad.add 2))) w := by
  have hu := Tryd.underlying48
  go_simp
theorem fa54_0 (g o : Nat) (w : World) : (Instr.fieldAt 54 (.pointer (some ⟨g, o, none⟩)) 0).run Tryd.prog w = .ok (.pointer (some ⟨g, o, none⟩)) w := by
  have hu := Tryd.underlying54
  go_simp
theorem fad54_0 (ad : Addr) (w : World) : (Instr.fieldAt 54 (.pointer (some ad)) 0).run Tryd.prog w = .ok (.pointer (some (ad.add 0))) w := by
  have hu := Tryd.underlying54
  go_simp
theorem fa54_1 (g o : Nat) (w : World) : (Instr.fieldAt 54 (.pointer (some ⟨g, o, none⟩)) 1).run Tryd.prog w = .ok (.pointer (some ⟨g, o + 1, none⟩)) w := by
  have hu := Tryd.underlying54
  go_simp
theorem fad54_1 (ad : Addr) (w : World) : (Instr.fieldAt 54 (.pointer (some ad)) 1).run Tryd.prog w = .ok (.pointer (some (ad.add 1))) w := by
  have hu := Tryd.underlying54
  go_simp
theorem fa54_2 (g o : Nat) (w : World) : (Instr.fieldAt 54 (.pointer (some ⟨g, o, none⟩)) 2).run Tryd.prog w = .ok (.pointer (some ⟨g, o + 2, none⟩)) w := by
  have hu := Tryd.underlying54
  go_simp
theorem fad54_2 (ad : Addr) (w : World) : (Instr.fieldAt 54 (.pointer (some ad)) 2).run Tryd.prog w = .ok (.pointer (some (ad.add 2))) w := by
  have hu := Tryd.underlying54
  go_simp
theorem fa54_3 (g o : Nat) (w : World) : (Instr.fieldAt 54 (.pointer (some ⟨g, o, none⟩)) 3).run Tryd.prog w = .ok (.pointer (some ⟨g, o + 3, none⟩)) w := by
  have hu := Tryd.underlying54
  go_simp
theorem fad54_3 (ad : Addr) (w : World) : (Instr.fieldAt 54 (.pointer (some ad)) 3).run Tryd.prog w = .ok (.pointer (some (ad.add 3))) w := by
  have hu := Tryd.underlying54
  go_simp
theorem fa54_4 (g o : Nat) (w : World) : (Instr.fieldAt 54 (.pointer (some ⟨g, o, none⟩)) 4).run Tryd.prog w = .ok (.pointer (some ⟨g, o + 4, none⟩)) w := by
  have hu := Tryd.underlying54
  go_simp
theorem fad54_4 (ad : Addr) (w : World) : (Instr.fieldAt 54 (.pointer (some ad)) 4).run Tryd.prog w = .ok (.pointer (some (ad.add 4))) w := by
  have hu := Tryd.underlying54
  go_simp
theorem fa54_5 (g o : Nat) (w : World) : (Instr.fieldAt 54 (.pointer (some ⟨g, o, none⟩)) 5).run Tryd.prog w = .ok (.pointer (some ⟨g, o + 5, none⟩)) w := by
  have hu := Tryd.underlying54
  go_simp
theorem fad54_5 (ad : Addr) (w : World) : (Instr.fieldAt 54 (.pointer (some ad)) 5).run Tryd.prog w = .ok (.pointer (some (ad.add 5))) w := by
  have hu := Tryd.underlying54
  go_simp
theorem fa56_0 (g o : Nat) (w : World) : (Instr.fieldAt 56 (.pointer (some ⟨g, o, none⟩)) 0).run Tryd.prog w = .ok (.pointer (some ⟨g, o, none⟩)) w := by
  have hu := Tryd.underlying56
  go_simp
theorem fad56_0 (ad : Addr) (w : World) : (Instr.fieldAt 56 (.pointer (some ad)) 0).run Tryd.prog w = .ok (.pointer (some (ad.add 0))) w := by
  have hu := Tryd.underlying56
  go_simp
theorem fa56_1 (g o : Nat) (w : World) : (Instr.fieldAt 56 (.pointer (some ⟨g, o, none⟩)) 1).run Tryd.prog w = .ok (.pointer (some ⟨g, o + 1, none⟩)) w := by
  have hu := Tryd.underlying56
  go_simp
theorem fad56_1 (ad : Addr) (w : World) : (Instr.fieldAt 56 (.pointer (some ad)) 1).run Tryd.prog w = .ok (.pointer (some (ad.add 1))) w := by
  have hu := Tryd.underlying56
  go_simp
theorem fa56_2 (g o : Nat) (w : World) : (Instr.fieldAt 56 (.pointer (some ⟨g, o, none⟩)) 2).run Tryd.prog w = .ok (.pointer (some ⟨g, o + 7, none⟩)) w := by
  have hu := Tryd.underlying56
  go_simp
theorem fad56_2 (ad : Addr) (w : World) : (Instr.fieldAt 56 (.pointer (some ad)) 2).run Tryd.prog w = .ok (.pointer (some (ad.add 7))) w := by
  have hu := Tryd.underlying56
  go_simp
theorem fa56_3 (g o : Nat) (w : World) : (Instr.fieldAt 56 (.pointer (some ⟨g, o, none⟩)) 3).run Tryd.prog w = .ok (.pointer (some ⟨g, o + 8, none⟩)) w := by
  have hu := Tryd.underlying56
  go_simp
theorem fad56_3 (ad : Addr) (w : World) : (Instr.fieldAt 56 (.pointer (some ad)) 3).run Tryd.prog w = .ok (.pointer (some (ad.add 8))) w := by
  have hu := Tryd.underlying56
  go_simp
theorem fa56_4 (g o : Nat) (w : World) : (Instr.fieldAt 56 (.pointer (some ⟨g, o, none⟩)) 4).run Tryd.prog w = .ok (.pointer (some ⟨g, o + 9, none⟩)) w := by
  have hu := Tryd.underlying56
  go_simp
theorem fad56_4 (ad : Addr) (w : World) : (Instr.fieldAt 56 (.pointer (some ad)) 4).run Tryd.prog w = .ok (.pointer (some (ad.add 9))) w := by
  have hu := Tryd.underlying56
  go_simp
theorem fa82_0 (g o : Nat) (w : World) : (Instr.fieldAt 82 (.pointer (some ⟨g, o, none⟩)) 0).run Tryd.prog w = .ok (.pointer (some ⟨g, o, none⟩)) w := by
  have hu := Tryd.underlying82
  go_simp
theorem fad82_0 (ad : Addr) (w : World) : (Instr.fieldAt 82 (.pointer (some ad)) 0).run Tryd.prog w = .ok (.pointer (some (ad.add 0))) w := by
  have hu := Tryd.underlying82
  go_simp
theorem fa82_1 (g o : Nat) (w : World) : (Instr.fieldAt 82 (.pointer (some ⟨g, o, none⟩)) 1).run Tryd.prog w = .ok (.pointer (some ⟨g, o + 1, none⟩)) w := by
  have hu := Tryd.underlying82
  go_simp
theorem fad82_1 (ad : Addr) (w : World) : (Instr.fieldAt 82 (.pointer (some ad)) 1).run Tryd.prog w = .ok (.pointer (some (ad.add 1))) w := by
  have hu := Tryd.underlying82
  go_simp
theorem fa82_2 (g o : Nat) (w : World) : (Instr.fieldAt 82 (.pointer (some ⟨g, o, none⟩)) 2).run Tryd.prog w = .ok (.pointer (some ⟨g, o + 2, none⟩)) w := by
  have hu := Tryd.underlying82
  go_simp
theorem fad82_2 (ad : Addr) (w : World) : (Instr.fieldAt 82 (.pointer (some ad)) 2).run Tryd.prog w = .ok (.pointer (some (ad.add 2))) w := by
  have hu := Tryd.underlying82
  go_simp
theorem fa82_3 (g o : Nat) (w : World) : (Instr.fieldAt 82 (.pointer (some ⟨g, o, none⟩)) 3).run Tryd.prog w = .ok (.pointer (some ⟨g, o + 3, none⟩)) w := by
  have hu := Tryd.underlying82
  go_simp
theorem fad82_3 (ad : Addr) (w : World) : (Instr.fieldAt 82 (.pointer (some ad)) 3).run Tryd.prog w = .ok (.pointer (some (ad.add 3))) w := by
  have hu := Tryd.underlying82
  go_simp
theorem fa82_4 (g o : Nat) (w : World) : (Instr.fieldAt 82 (.pointer (some ⟨g, o, none⟩)) 4).run Tryd.prog w = .ok (.pointer (some ⟨g, o + 4, none⟩)) w := by
  have hu := Tryd.underlying82
  go_simp
theorem fad82_4 (ad : Addr) (w : World) : (Instr.fieldAt 82 (.pointer (some ad)) 4).run Tryd.prog w = .ok (.pointer (some (ad.add 4))) w := by
  have hu := Tryd.underlying82
  go_simp
theorem fa82_5 (g o : Nat) (w : World) : (Instr.fieldAt 82 (.pointer (some ⟨g, o, none⟩)) 5).run Tryd.prog w = .ok (.pointer (some ⟨g, o + 5, none⟩)) w := by
  have hu := Tryd.underlying82
  go_simp
theorem fad82_5 (ad : Addr) (w : World) : (Instr.fieldAt 82 (.pointer (some ad)) 5).run Tryd.prog w = .ok (.pointer (some (ad.add 5))) w := by
  have hu := Tryd.underlying82
  go_simp
theorem fa84_0 (g o : Nat) (w : World) : (Instr.fieldAt 84 (.pointer (some ⟨g, o, none⟩)) 0).run Tryd.prog w = .ok (.pointer (some ⟨g, o, none⟩)) w := by
  have hu := Tryd.underlying84
  go_simp
theorem fad84_0 (ad : Addr) (w : World) : (Instr.fieldAt 84 (.pointer (some ad)) 0).run Tryd.prog w = .ok (.pointer (some (ad.add 0))) w := by
  have hu := Tryd.underlying84
  go_simp
theorem fa84_1 (g o : Nat) (w : World) : (Instr.fieldAt 84 (.pointer (some ⟨g, o, none⟩)) 1).run Tryd.prog w = .ok (.pointer (some ⟨g, o + 1, none⟩)) w := by
  have hu := Tryd.underlying84
  go_simp
theorem fad84_1 (ad : Addr) (w : World) : (Instr.fieldAt 84 (.pointer (some ad)) 1).run Tryd.prog w = .ok (.pointer (some (ad.add 1))) w := by
  have hu := Tryd.underlying84
  go_simp
theorem row1_79 {o : Oper} {a : Act} {w : World} {x0 : Operand} {s0 : ByteArray} (ho : o.op = .buildSlice 79 1 #[(0, x0)]) (h0 : a.eval x0 = .string s0) : (execOp a.eval o).run Tryd.prog w = .ok (.value (.slice (some ⟨w.heap.size, 0, none⟩) 1 1)) (w.alloc (.cells #[.string s0] 9 (0, 0))) := by
  have hu := Tryd.underlying79
  have hue := Tryd.underlying9
  unfold execOp
  simp only [ho, List.map_toArray, List.map_cons, List.map_nil, h0]
  clear ho h0
  first
  | (go_simp; done)
  | (go_simp; rfl)
theorem row2_43 {o : Oper} {a : Act} {w : World} {x0 x1 : Operand} {s0 s1 : Int} (ho : o.op = .buildSlice 43 2 #[(0, x0), (1, x1)]) (h0 : a.eval x0 = .int .u8 s0) (h1 : a.eval x1 = .int .u8 s1) : (execOp a.eval o).run Tryd.prog w = .ok (.value (.slice (some ⟨w.heap.size, 0, none⟩) 2 2)) (w.alloc (.cells #[.int .u8 s0, .int .u8 s1] 5 (0, 0))) := by
  have hu := Tryd.underlying43
  have hue := Tryd.underlying5
  unfold execOp
  simp only [ho, List.map_toArray, List.map_cons, List.map_nil, h0, h1]
  clear ho h0 h1
  first
  | (go_simp; done)
  | (go_simp; rfl)
theorem row2_79 {o : Oper} {a : Act} {w : World} {x0 x1 : Operand} {s0 s1 : ByteArray} (ho : o.op = .buildSlice 79 2 #[(0, x0), (1, x1)]) (h0 : a.eval x0 = .string s0) (h1 : a.eval x1 = .string s1) : (execOp a.eval o).run Tryd.prog w = .ok (.value (.slice (some ⟨w.heap.size, 0, none⟩) 2 2)) (w.alloc (.cells #[.string s0, .string s1] 9 (0, 0))) := by
  have hu := Tryd.underlying79
  have hue := Tryd.underlying9
  unfold execOp
  simp only [ho, List.map_toArray, List.map_cons, List.map_nil, h0, h1]
  clear ho h0 h1
  first
  | (go_simp; done)
  | (go_simp; rfl)
theorem row3_79 {o : Oper} {a : Act} {w : World} {x0 x1 x2 : Operand} {s0 s1 s2 : ByteArray} (ho : o.op = .buildSlice 79 3 #[(0, x0), (1, x1), (2, x2)]) (h0 : a.eval x0 = .string s0) (h1 : a.eval x1 = .string s1) (h2 : a.eval x2 = .string s2) : (execOp a.eval o).run Tryd.prog w = .ok (.value (.slice (some ⟨w.heap.size, 0, none⟩) 3 3)) (w.alloc (.cells #[.string s0, .string s1, .string s2] 9 (0, 0))) := by
  have hu := Tryd.underlying79
  have hue := Tryd.underlying9
  unfold execOp
  simp only [ho, List.map_toArray, List.map_cons, List.map_nil, h0, h1, h2]
  clear ho h0 h1 h2
  first
  | (go_simp; done)
  | (go_simp; rfl)
theorem row4_79 {o : Oper} {a : Act} {w : World} {x0 x1 x2 x3 : Operand} {s0 s1 s2 s3 : ByteArray} (ho : o.op = .buildSlice 79 4 #[(0, x0), (1, x1), (2, x2), (3, x3)]) (h0 : a.eval x0 = .string s0) (h1 : a.eval x1 = .string s1) (h2 : a.eval x2 = .string s2) (h3 : a.eval x3 = .string s3) : (execOp a.eval o).run Tryd.prog w = .ok (.value (.slice (some ⟨w.heap.size, 0, none⟩) 4 4)) (w.alloc (.cells #[.string s0, .string s1, .string s2, .string s3] 9 (0, 0))) := by
  have hu := Tryd.underlying79
  have hue := Tryd.underlying9
  unfold execOp
  simp only [ho, List.map_toArray, List.map_cons, List.map_nil, h0, h1, h2, h3]
  clear ho h0 h1 h2 h3
  first
  | (go_simp; done)
  | (go_simp; rfl)
theorem row7_79 {o : Oper} {a : Act} {w : World} {x0 x1 x2 x3 x4 x5 x6 : Operand} {s0 s1 s2 s3 s4 s5 s6 : ByteArray} (ho : o.op = .buildSlice 79 7 #[(0, x0), (1, x1), (2, x2), (3, x3), (4, x4), (5, x5), (6, x6)]) (h0 : a.eval x0 = .string s0) (h1 : a.eval x1 = .string s1) (h2 : a.eval x2 = .string s2) (h3 : a.eval x3 = .string s3) (h4 : a.eval x4 = .string s4) (h5 : a.eval x5 = .string s5) (h6 : a.eval x6 = .string s6) : (execOp a.eval o).run Tryd.prog w = .ok (.value (.slice (some ⟨w.heap.size, 0, none⟩) 7 7)) (w.alloc (.cells #[.string s0, .string s1, .string s2, .string s3, .string s4, .string s5, .string s6] 9 (0, 0))) := by
  have hu := Tryd.underlying79
  have hue := Tryd.underlying9
  unfold execOp
  simp only [ho, List.map_toArray, List.map_cons, List.map_nil, h0, h1, h2, h3, h4, h5, h6]
  clear ho h0 h1 h2 h3 h4 h5 h6
  first
  | (go_simp; done)
  | (go_simp; rfl)
theorem row8_79 {o : Oper} {a : Act} {w : World} {x0 x1 x2 x3 x4 x5 x6 x7 : Operand} {s0 s1 s2 s3 s4 s5 s6 s7 : ByteArray} (ho : o.op = .buildSlice 79 8 #[(0, x0), (1, x1), (2, x2), (3, x3), (4, x4), (5, x5), (6, x6), (7, x7)]) (h0 : a.eval x0 = .string s0) (h1 : a.eval x1 = .string s1) (h2 : a.eval x2 = .string s2) (h3 : a.eval x3 = .string s3) (h4 : a.eval x4 = .string s4) (h5 : a.eval x5 = .string s5) (h6 : a.eval x6 = .string s6) (h7 : a.eval x7 = .string s7) : (execOp a.eval o).run Tryd.prog w = .ok (.value (.slice (some ⟨w.heap.size, 0, none⟩) 8 8)) (w.alloc (.cells #[.string s0, .string s1, .string s2, .string s3, .string s4, .string s5, .string s6, .string s7] 9 (0, 0))) := by
  have hu := Tryd.underlying79
  have hue := Tryd.underlying9
  unfold execOp
  simp only [ho, List.map_toArray, List.map_cons, List.map_nil, h0, h1, h2, h3, h4, h5, h6, h7]
  clear ho h0 h1 h2 h3 h4 h5 h6 h7
  first
  | (go_simp; done)
  | (go_simp; rfl)
theorem row11_35 {o : Oper} {a : Act} {w : World} {x0 x1 x2 x3 x4 x5 x6 x7 x8 x9 x10 : Operand} {s0 s1 s2 s3 s4 s5 s6 s7 s8 s9 s10 : Int} (ho : o.op = .buildSlice 35 11 #[(0, x0), (1, x1), (2, x2), (3, x3), (4, x4), (5, x5), (6, x6), (7, x7), (8, x8), (9, x9), (10, x10)]) (h0 : a.eval x0 = .int .i64 s0) (h1 : a.eval x1 = .int .i64 s1) (h2 : a.eval x2 = .int .i64 s2) (h3 : a.eval x3 = .int .i64 s3) (h4 : a.eval x4 = .int .i64 s4) (h5 : a.eval x5 = .int .i64 s5) (h6 : a.eval x6 = .int .i64 s6) (h7 : a.eval x7 = .int .i64 s7) (h8 : a.eval x8 = .int .i64 s8) (h9 : a.eval x9 = .int .i64 s9) (h10 : a.eval x10 = .int .i64 s10) : (execOp a.eval o).run Tryd.prog w = .ok (.value (.slice (some ⟨w.heap.size, 0, none⟩) 11 11)) (w.alloc (.cells #[.int .i64 s0, .int .i64 s1, .int .i64 s2, .int .i64 s3, .int .i64 s4, .int .i64 s5, .int .i64 s6, .int .i64 s7, .int .i64 s8, .int .i64 s9, .int .i64 s10] 3 (0, 0))) := by
  have hu := Tryd.underlying35
  have hue := Tryd.underlying3
  unfold execOp
  simp only [ho, List.map_toArray, List.map_cons, List.map_nil, h0, h1, h2, h3, h4, h5, h6, h7, h8, h9, h10]
  clear ho h0 h1 h2 h3 h4 h5 h6 h7 h8 h9 h10
  first
  | (go_simp; done)
  | (go_simp; rfl)
theorem row11_79 {o : Oper} {a : Act} {w : World} {x0 x1 x2 x3 x4 x5 x6 x7 x8 x9 x10 : Operand} {s0 s1 s2 s3 s4 s5 s6 s7 s8 s9 s10 : ByteArray} (ho : o.op = .buildSlice 79 11 #[(0, x0), (1, x1), (2, x2), (3, x3), (4, x4), (5, x5), (6, x6), (7, x7), (8, x8), (9, x9), (10, x10)]) (h0 : a.eval x0 = .string s0) (h1 : a.eval x1 = .string s1) (h2 : a.eval x2 = .string s2) (h3 : a.eval x3 = .string s3) (h4 : a.eval x4 = .string s4) (h5 : a.eval x5 = .string s5) (h6 : a.eval x6 = .string s6) (h7 : a.eval x7 = .string s7) (h8 : a.eval x8 = .string s8) (h9 : a.eval x9 = .string s9) (h10 : a.eval x10 = .string s10) : (execOp a.eval o).run Tryd.prog w = .ok (.value (.slice (some ⟨w.heap.size, 0, none⟩) 11 11)) (w.alloc (.cells #[.string s0, .string s1, .string s2, .string s3, .string s4, .string s5, .string s6, .string s7, .string s8, .string s9, .string s10] 9 (0, 0))) := by
  have hu := Tryd.underlying79
  have hue := Tryd.underlying9
  unfold execOp
  simp only [ho, List.map_toArray, List.map_cons, List.map_nil, h0, h1, h2, h3, h4, h5, h6, h7, h8, h9, h10]
  clear ho h0 h1 h2 h3 h4 h5 h6 h7 h8 h9 h10
  first
  | (go_simp; done)
  | (go_simp; rfl)
theorem row15_79 {o : Oper} {a : Act} {w : World} {x0 x1 x2 x3 x4 x5 x6 x7 x8 x9 x10 x11 x12 x13 x14 : Operand} {s0 s1 s2 s3 s4 s5 s6 s7 s8 s9 s10 s11 s12 s13 s14 : ByteArray} (ho : o.op = .buildSlice 79 15 #[(0, x0), (1, x1), (2, x2), (3, x3), (4, x4), (5, x5), (6, x6), (7, x7), (8, x8), (9, x9), (10, x10), (11, x11), (12, x12), (13, x13), (14, x14)]) (h0 : a.eval x0 = .string s0) (h1 : a.eval x1 = .string s1) (h2 : a.eval x2 = .string s2) (h3 : a.eval x3 = .string s3) (h4 : a.eval x4 = .string s4) (h5 : a.eval x5 = .string s5) (h6 : a.eval x6 = .string s6) (h7 : a.eval x7 = .string s7) (h8 : a.eval x8 = .string s8) (h9 : a.eval x9 = .string s9) (h10 : a.eval x10 = .string s10) (h11 : a.eval x11 = .string s11) (h12 : a.eval x12 = .string s12) (h13 : a.eval x13 = .string s13) (h14 : a.eval x14 = .string s14) : (execOp a.eval o).run Tryd.prog w = .ok (.value (.slice (some ⟨w.heap.size, 0, none⟩) 15 15)) (w.alloc (.cells #[.string s0, .string s1, .string s2, .string s3, .string s4, .string s5, .string s6, .string s7, .string s8, .string s9, .string s10, .string s11, .string s12, .string s13, .string s14] 9 (0, 0))) := by
  have hu := Tryd.underlying79
  have hue := Tryd.underlying9
  unfold execOp
  simp only [ho, List.map_toArray, List.map_cons, List.map_nil, h0, h1, h2, h3, h4, h5, h6, h7, h8, h9, h10, h11, h12, h13, h14]
  clear ho h0 h1 h2 h3 h4 h5 h6 h7 h8 h9 h10 h11 h12 h13 h14
  first
  | (go_simp; done)
  | (go_simp; rfl)
theorem size3 : (Tryd.prog.info? 3).map (·.size) = some 1 := by kernel_rfl
theorem size4 : (Tryd.prog.info? 4).map (·.size) = some 1 := by kernel_rfl
theorem size5 : (Tryd.prog.info? 5).map (·.size) = some 1 := by kernel_rfl
theorem size9 : (Tryd.prog.info? 9).map (·.size) = some 1 := by kernel_rfl
theorem size34 : (Tryd.prog.info? 34).map (·.size) = some 11 := by kernel_rfl
theorem size38 : (Tryd.prog.info? 38).map (·.size) = some 15 := by kernel_rfl
theorem size45 : (Tryd.prog.info? 45).map (·.size) = some 10 := by kernel_rfl
theorem size48 : (Tryd.prog.info? 48).map (·.size) = some 5 := by kernel_rfl
theorem size56 : (Tryd.prog.info? 56).map (·.size) = some 10 := by kernel_rfl
theorem size82 : (Tryd.prog.info? 82).map (·.size) = some 6 := by kernel_rfl
theorem size84 : (Tryd.prog.info? 84).map (·.size) = some 2 := by kernel_rfl
theorem zero82_is : (Tryd.prog.info? 82).map (·.zero) = some (some (.agg #[.int .i64 0, .int .i64 0, .bool false, .int .i64 0, .bool false, .slice none 0 0])) := by kernel_rfl
theorem zero84_is : (Tryd.prog.info? 84).map (·.zero) = some (some (.agg #[.int .i64 0, .slice none 0 0])) := by kernel_rfl
theorem info9 : (Tryd.prog.info? 9).map (fun i => (i.zero, i.size, i.bytes)) = some (some (.string ⟨#[]⟩), 1, 16) := by kernel_rfl
theorem info3 : (Tryd.prog.info? 3).map (fun i => (i.zero, i.size, i.bytes)) = some (some (.int .i64 0), 1, 8) := by kernel_rfl
theorem info5 : (Tryd.prog.info? 5).map (fun i => (i.zero, i.size, i.bytes)) = some (some (.int .u8 0), 1, 1) := by kernel_rfl
end Go.Proofs.YtlhmpmmblnbmbaaDoor.Rep
