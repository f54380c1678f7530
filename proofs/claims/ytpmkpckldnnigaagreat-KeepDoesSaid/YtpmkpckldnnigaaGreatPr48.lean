/- Parts: KeepS, VerifyD, VerifyE, VerifyF, PlainDig, DigA, DigC, KeepA, KeepB, KeepC. -/
import Derived.Test.YtpmkpckldnnigaaGreatPr47
import Derived.Deep.DeepCutAuto
import Derived.Deep.CutBlock
import Derived.Test.YtpmkpckldnnigaaGreatPr46
import Derived.Test.YtpmkpckldnnigaaGreatPr02
import Derived.Lib.SliceRun
import Derived.BigFrame
import Derived.Test.YtpmkpckldnnigaaGreatPr03
import Derived.Laws.BytesString
import Derived.Laws.IdiomStrings
import Derived.Test.YtpmkpckldnnigaaGreatPr36
import Derived.Test.YtpmkpckldnnigaaGreatPr06
import Derived.Test.YtpmkpckldnnigaaGreatPr05
namespace Go.Proofs.YtpmkpckldnnigaaGreat
open Go.RowKit
set_option linter.unusedVariables false
set_option linter.unusedSimpArgs false
section
variable {w w' : World} {base g : Nat} {q : RDiskP} {D : DiskV} {x : PA} {p : PV} {hash : Int} {k : KpV} {X : Nat → Prop}
end
end Go.Proofs.YtpmkpckldnnigaaGreat
namespace Go.Proofs.YtpmkpckldnnigaaGreat
open Go.RowKit
set_option linter.unusedVariables false
set_option linter.unusedSimpArgs false
section
variable {w w' : World} {base g : Nat} {x : PA} {p : PV} {s s' : LkV}
end
end Go.Proofs.YtpmkpckldnnigaaGreat
namespace Go.Proofs.YtpmkpckldnnigaaGreat
open Go.RowKit
set_option linter.unusedVariables false
set_option linter.unusedSimpArgs false
section
variable {w w' : World} {base g : Nat} {x : PA} {p : PV} {s s' : LkV}
end
end Go.Proofs.YtpmkpckldnnigaaGreat
namespace Go.Proofs.YtpmkpckldnnigaaGreat
open Go.RowKit
set_option linter.unusedVariables false
set_option linter.unusedSimpArgs false
section
variable {w w' : World}
section
variable {base g : Nat} {x : PA} {p : PV} {s : LkV}
theorem Olds.below (h : Olds w base x p) (hb : Below base w w') : Olds w' base x p := by
  obtain ⟨w0, h1, h2, h3⟩ := h
  exact ⟨w0, h1, h2, h3.trans hb⟩
end
end
end Go.Proofs.YtpmkpckldnnigaaGreat
namespace Go.Proofs.YtpmkpckldnnigaaGreat
open Go.RowKit

end Go.Proofs.YtpmkpckldnnigaaGreat
namespace Go.Proofs.YtpmkpckldnnigaaGreat
open Go.RowKit

end Go.Proofs.YtpmkpckldnnigaaGreat
namespace Go.Proofs.YtpmkpckldnnigaaGreat
open Go.RowKit
set_option linter.unusedVariables false
set_option linter.unusedSimpArgs false
end Go.Proofs.YtpmkpckldnnigaaGreat
namespace Go.Proofs.YtpmkpckldnnigaaGreat
open Go.RowKit
set_option linter.unusedVariables false
set_option linter.unusedSimpArgs false
section
variable {w w' : World} {base ga gb fl ml fr mr : Nat} {q : DiskP} {D : DiskV} {x : PA} {p : PV}
end
end Go.Proofs.YtpmkpckldnnigaaGreat
namespace Go.Proofs.YtpmkpckldnnigaaGreat
open Go.RowKit
set_option linter.unusedVariables false
set_option linter.unusedSimpArgs false
def lastKV (k : KpV) : SV := if k.has then k.last else noSnap
section
variable {w w' : World} {base g ga gb fl ml fr mr : Nat} {q : DiskP} {D : DiskV} {x : PA} {p : PV} {hash : Int} {k : KpV}
end
end Go.Proofs.YtpmkpckldnnigaaGreat
namespace Go.Proofs.YtpmkpckldnnigaaGreat
open Go.RowKit
set_option linter.unusedVariables false
set_option linter.unusedSimpArgs false
section
variable {w w' : World} {base g ga gb fl ml fr mr : Nat} {q : DiskP} {D : DiskV} {x : PA} {p : PV} {hash tick : Int} {k : KpV} {cells : List Int} {A : Option Addr} {n c : Nat}
end
end Go.Proofs.YtpmkpckldnnigaaGreat
