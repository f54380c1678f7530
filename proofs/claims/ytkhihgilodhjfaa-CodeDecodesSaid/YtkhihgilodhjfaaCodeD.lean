/- Contracts of the reference of code: which programs may be. -/
import Derived.Test.YtkhihgilodhjfaaCodeC
namespace Go.Proofs.Ytkhihgilodhjfaa
open Go.RowKit

end Go.Proofs.Ytkhihgilodhjfaa
