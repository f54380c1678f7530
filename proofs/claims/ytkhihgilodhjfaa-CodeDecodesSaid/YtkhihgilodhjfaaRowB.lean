/- Contracts of package row and of its reference: how many bytes there may be; a row's bytes. -/
import Derived.Test.YtkhihgilodhjfaaRowA
import Derived.Test.YtkhihgilodhjfaaKeep
import Derived.Test.YtkhihgilodhjfaaNumB
import Derived.Test.YtkhihgilodhjfaaRefNumE
namespace Go.Proofs.Ytkhihgilodhjfaa
open Go.RowKit

def sizeR (ts : List Int) : Nat := if rightB ts then sizeK ts ts.length else 0
end Go.Proofs.Ytkhihgilodhjfaa
