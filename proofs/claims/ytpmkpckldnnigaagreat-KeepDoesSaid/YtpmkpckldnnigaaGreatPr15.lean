/- Parts: DiskG. -/
import Derived.Test.YtpmkpckldnnigaaGreatPr14
import Derived.Test.YtpmkpckldnnigaaGreatPr01
namespace Go.Proofs.YtpmkpckldnnigaaGreat
open Go.RowKit
set_option linter.unusedVariables false
set_option linter.unusedSimpArgs false

end Go.Proofs.YtpmkpckldnnigaaGreat
