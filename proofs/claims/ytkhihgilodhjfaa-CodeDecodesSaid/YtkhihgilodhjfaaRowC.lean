/- Contracts of package row and of its reference: a row's bytes. -/
import Derived.Test.YtkhihgilodhjfaaRowB
namespace Go.Proofs.Ytkhihgilodhjfaa
open Go.RowKit

theorem piece_two (v : Int) : piece 2 v = [UInt8.ofNat v.toNat] := by unfold piece; rw [if_pos rfl]
theorem piece_not {t : Int} (h : t ≠ 2) (v : Int) : piece t v = digL 9 (zz v) := by unfold piece; rw [if_neg h]

end Go.Proofs.Ytkhihgilodhjfaa
