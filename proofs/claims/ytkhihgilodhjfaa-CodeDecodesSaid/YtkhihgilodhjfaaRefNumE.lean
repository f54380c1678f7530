/- Contracts of the reference of num: Zig, Zag. -/
import Derived.Test.YtkhihgilodhjfaaRefNumD
namespace Go.Proofs.Ytkhihgilodhjfaa
open Go.RowKit

theorem bit_part (Z i k : Nat) (hk : k < 7) : bit Z (7 * i + k) = Z / 128 ^ i % 128 / 2 ^ k % 2 := by
  have e : (128 : Nat) = 2 ^ k * 2 ^ (7 - k) := by rw [← Nat.pow_add, show k + (7 - k) = 7 from by omega]
  have e' : (128 : Nat) ^ i = 2 ^ (7 * i) := by rw [Nat.pow_mul]
  unfold bit
  rw [Nat.pow_add, ← Nat.div_div_eq_div_mul, ← e']
  generalize Z / 128 ^ i = V
  rw [e, Nat.mod_mul_right_div_self, show 7 - k = (6 - k) + 1 from by omega, Nat.pow_succ, Nat.mod_mul_left_mod]

end Go.Proofs.Ytkhihgilodhjfaa
