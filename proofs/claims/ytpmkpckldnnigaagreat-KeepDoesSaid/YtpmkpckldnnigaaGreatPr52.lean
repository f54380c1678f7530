/- Parts: KeepP, KeepM, CodeJ, RefDigA, RefDigB, KeepD, Few28. -/
import Derived.Test.YtpmkpckldnnigaaGreatPr32
import Derived.Test.YtpmkpckldnnigaaGreatPr48
import Derived.Test.YtpmkpckldnnigaaGreatPr33
import Derived.Test.YtpmkpckldnnigaaGreatPr46
import Derived.Test.YtpmkpckldnnigaaGreatPr36
import Derived.Test.YtpmkpckldnnigaaGreatPr05
import Derived.Test.YtpmkpckldnnigaaGreatPr04
import Derived.Test.YtpmkpckldnnigaaGreatPr03
namespace Go.Proofs.YtpmkpckldnnigaaGreat
open Go.RowKit
set_option linter.unusedVariables false
set_option linter.unusedSimpArgs false
theorem SInv.blank : SInv D10a ⟨2, 0, []⟩ 0 := by
  have hc : Calm D10a := by
    have := calm_new (many := 12) (by omega) (by omega)
    show Calm (loadD 12 12 [] 0)
    rw [loadD_zero]
    exact this
  have h3 : D10a.many = 12 ∧ D10a.waits.length = 0 ∧ (wholeV D10a 0 6).2.2.2 = 53 ∧ (wholeV D10a 6 6).2.2.2 = 53 := by decide +kernel
  obtain ⟨h4, h5, h7, h8⟩ := h3
  exact ⟨hc.fit, h4, List.eq_nil_of_length_eq_zero h5, rfl, fun _ => ⟨rfl, h7, h8⟩, fun e => absurd e (by omega)⟩
theorem KInv.blank (p : PV) (hash : Int) : KInv p hash D10a ⟨2, 0, []⟩ 0 (-1) [] := ⟨SInv.blank, fun _ => ⟨rfl, rfl⟩, fun e => absurd e (by omega)⟩
end Go.Proofs.YtpmkpckldnnigaaGreat
namespace Go.Proofs.YtpmkpckldnnigaaGreat
open Go.RowKit
set_option linter.unusedVariables false
set_option linter.unusedSimpArgs false
end Go.Proofs.YtpmkpckldnnigaaGreat
namespace Go.Proofs.YtpmkpckldnnigaaGreat
open Go.RowKit

end Go.Proofs.YtpmkpckldnnigaaGreat
namespace Go.Proofs.YtpmkpckldnnigaaGreat
open Go.RowKit

end Go.Proofs.YtpmkpckldnnigaaGreat
namespace Go.Proofs.YtpmkpckldnnigaaGreat
open Go.RowKit

end Go.Proofs.YtpmkpckldnnigaaGreat
namespace Go.Proofs.YtpmkpckldnnigaaGreat
open Go.RowKit
set_option linter.unusedVariables false
set_option linter.unusedSimpArgs false
section
variable {w0 W : World} {base ga gb : Nat} {p : DiskP} {D : DiskV} {x : PA} {M : List TypeId}
end
end Go.Proofs.YtpmkpckldnnigaaGreat
namespace Go.Proofs.YtpmkpckldnnigaaGreat
open Go.RowKit
set_option linter.unusedVariables false
set_option linter.unusedSimpArgs false
end Go.Proofs.YtpmkpckldnnigaaGreat
