/- What the parameters of ConsoleWords read as. Written by openrow.py, this work's own program. -/
import Derived.Test.YtlhmpmmblnbmbaaPConsoleWordsx0
import Derived.Test.YtlhmpmmblnbmbaaOpen
import Derived.Test.YtlhmpmmblnbmbaaWMore
namespace Go.Proofs.Ytlhmpmmblnbmbaa.consoleWords
open Go.RowKit
open Go.Proofs.Ytlhmpmmblnbmbaa.PConsoleWords Go.Proofs.YtlhmpmmblnbmbaaW.PrintWords Go.Proofs.YtlhmpmmblnbmbaaW.PrintLast Go.Proofs.YtlhmpmmblnbmbaaW.PrintMore Go.Proofs.Ytlhmpmmblnbmbaa.Open
set_option linter.unusedVariables false
set_option maxRecDepth 100000
theorem o9 : Opens Try.prog 9 Kd.string (fun x => x.size ≤ maxLen) := opens_string Try.underlying9 (by kernel_rfl)
end Go.Proofs.Ytlhmpmmblnbmbaa.consoleWords
