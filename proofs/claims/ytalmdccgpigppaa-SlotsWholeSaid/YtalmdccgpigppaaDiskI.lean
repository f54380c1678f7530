/- What a disk does: Image. -/
import Derived.Test.YtalmdccgpigppaaDiskF
namespace Go.Proofs.Ytalmdccgpigppaa
open Go.RowKit
set_option linter.unusedVariables false
set_option linter.unusedSimpArgs false
section
variable {w : World} {base : Nat} {p : DiskP} {A : Option Addr} {c : Nat} {D : DiskV}
theorem run_slice_all {P : Program} {t e : TypeId} {n : Nat} (hu : P.underlying t = some (.array n e)) (hs : (P.info? e).map (·.size) = some 1) (g o : Nat) (W : World) :
    (Instr.sliceAt t (.pointer (some ⟨g, o, none⟩)) none none none).run P W = .ok (.slice (some ⟨g, o, none⟩) n n) W := by
  have e1 : P.arrayLen t = n := by unfold Program.arrayLen; rw [hu]
  have e2 : P.elem t = e := by unfold Program.elem; rw [hu]
  cases hq : P.info? e with
  | none => simp [hq] at hs
  | some i =>
    have hsz : i.size = 1 := by simpa [hq] using hs
    rw [run_sliceAt_array_all W t ⟨g, o, none⟩ (by rw [e1, e2]; exact hu), e2, e1]
    have hso : (sizeOf e).run P W = .ok 1 W := by simp [sizeOf, typeInfo, hq, hsz]
    have hadd : (⟨g, o, none⟩ : Addr).add 0 = ⟨g, o, none⟩ := by simp [Addr.add]
    rw [hso]
    simp [slicedAt, hadd]
theorem take_sec {l : List UInt8} {k : Nat} : l.take (k * 128) ++ (l.drop (k * 128)).take 128 = l.take ((k + 1) * 128) := by
  rw [show (k + 1) * 128 = k * 128 + 128 by omega, List.take_add]
end
end Go.Proofs.Ytalmdccgpigppaa
