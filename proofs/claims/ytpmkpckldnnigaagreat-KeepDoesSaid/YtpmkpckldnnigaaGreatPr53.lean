/- Parts: CodeF, CodeLawA. -/
import Derived.Test.YtpmkpckldnnigaaGreatPr06
import Derived.Test.YtpmkpckldnnigaaGreatPr04
import Derived.Test.YtpmkpckldnnigaaGreatPr05
import Derived.Test.YtpmkpckldnnigaaGreatPr47
import Derived.Test.YtpmkpckldnnigaaGreatPr01
import Derived.Test.YtpmkpckldnnigaaGreatPr11
set_option linter.unusedVariables false
set_option linter.unusedSimpArgs false
set_option maxRecDepth 100000
set_option maxHeartbeats 40000000
namespace Go.Proofs.YtpmkpckldnnigaaGreat
open Go.RowKit
theorem vk8.wf {p : PV} (h : vk8 p) : qs1 p :=
  ⟨fun x hx => (h.cells x hx).2, fun x hx => ⟨(h.code x hx).2.1.2, (h.code x hx).2.2.1.2, (h.code x hx).2.2.2.1.2, (h.code x hx).2.2.2.2.1, (h.code x hx).2.2.2.2.2⟩⟩
end Go.Proofs.YtpmkpckldnnigaaGreat
