/- What is done to a meter, as an argument. -/
import Derived.Test.YtmaiafmpihpleaaFrameB
namespace Go.Proofs.Ytmaiafmpihpleaa
open Go.ChangeShapes Go.WideShapes Go.RowKit

section
variable {H : Type} {enc : TypeId × Value → H} {w : World} {base b0 : Nat} {held : Bool} {r : Reach} {v : Value} {d : DataW H} {ps : List MemPlace}
set_option maxRecDepth 100000 in
theorem args_do (hval : Value.okWide Try.prog w r b0 41 v) (hd : DataW.Trod enc Try.prog w base (fun _ => true) held 41 v d ps) :
    ∃ A n c, ∃ zs : List Int, v = .slice A n c ∧ zs.length = n * 3 ∧ Row w A (n * 3) (fun i => .int .i64 (zs.getD i 0)) ∧ n ≤ c ∧ c ≤ maxLen ∧ (∀ z ∈ zs, -9223372036854775808 ≤ z ∧ z ≤ 9223372036854775807) :=
  args_structs (k := 3) Try.underlying41 Try.underlying45 (by kernel_rfl) (by kernel_rfl) rfl (fun j f h => by
    match j, h with
    | 0, h => simp at h; subst h; exact Try.underlying3
    | 1, h => simp at h; subst h; exact Try.underlying3
    | 2, h => simp at h; subst h; exact Try.underlying3
    | k + 3, h => simp at h) hval hd
end
end Go.Proofs.Ytmaiafmpihpleaa
