/- Contracts of the reference of code: a program's bytes. -/
import Derived.Test.YtkhihgilodhjfaaCodeI
import Derived.Test.YtkhihgilodhjfaaRefNumC
namespace Go.Proofs.Ytkhihgilodhjfaa
open Go.RowKit

def hasM (op : Int) : Nat := match cls op with | 1 => 1 | 2 => 2 | 3 => 3 | 4 => 3 | _ => 0
theorem hasM_eq (op : Int) : hasN op = (hasM op : Nat) ∧ hasM op ≤ 3 := by
  unfold hasN hasM
  have := cls_le op
  generalize cls op = q at *
  rcases (show q = 0 ∨ q = 1 ∨ q = 2 ∨ q = 3 ∨ q = 4 by omega) with rfl | rfl | rfl | rfl | rfl <;> decide
theorem insBs_eq (x : Ins) (h : cls x.op ≠ 0) : insBs x = [UInt8.ofNat x.op.toNat] ++ catK (fun i => [digL 9 x.a.toNat, digL 9 x.b.toNat, digL 9 x.c.toNat].getD i []) (hasM x.op) ++ (if hasK x.op then digL 9 (zz x.k) else []) := by
  unfold insBs hasM
  have := cls_le x.op
  generalize cls x.op = q at *
  rcases (show q = 1 ∨ q = 2 ∨ q = 3 ∨ q = 4 by omega) with rfl | rfl | rfl | rfl <;> simp [catK]

end Go.Proofs.Ytkhihgilodhjfaa
