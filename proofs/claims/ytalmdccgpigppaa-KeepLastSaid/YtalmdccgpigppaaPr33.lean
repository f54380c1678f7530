/- Parts: PlainTurn. -/
import Derived.Test.YtalmdccgpigppaaPr32
import Derived.Test.YtalmdccgpigppaaPr29
namespace Go.Proofs.Ytalmdccgpigppaa
open Go.RowKit
set_option linter.unusedVariables false
set_option linter.unusedSimpArgs false
theorem headL_len (load : List UInt8) : (headL load).length = 12 := by unfold headL; rw [List.length_append, putL_len, sumL_len]
end Go.Proofs.Ytalmdccgpigppaa
