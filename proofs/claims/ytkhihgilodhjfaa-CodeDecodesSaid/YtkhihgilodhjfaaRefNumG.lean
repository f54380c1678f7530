/- The reference's Get of eight bytes. -/
import Derived.Test.YtkhihgilodhjfaaRefNumB
namespace Go.Proofs.Ytkhihgilodhjfaa
open Go.RowKit

theorem getL_at (l : List UInt8) : ∀ k, k < l.length → getL l / 256 ^ k % 256 = byteAt l k := by
  induction l with
  | nil => intro k h; simp at h
  | cons c l ih =>
    intro k h
    cases k with
    | zero => simp only [getL, Nat.pow_zero, Nat.div_one]; have := c.toNat_lt; simp [byteAt]
    | succ k =>
      have e := ih k (by simpa using h)
      have hb : byteAt (c :: l) (k + 1) = byteAt l k := by simp [byteAt]
      rw [hb, ← e, Nat.pow_succ, Nat.mul_comm (256 ^ k) 256, ← Nat.div_div_eq_div_mul]
      have := c.toNat_lt
      simp only [getL]
      rw [show (c.toNat + 256 * getL l) / 256 = getL l from by omega]
theorem getL_bit (l : List UInt8) (k m : Nat) (hk : k < l.length) (hm : m < 8) : bit (getL l) (8 * k + m) = byteAt l k / 2 ^ m % 2 := by
  rw [← getL_at l k hk]
  unfold bit
  rw [Nat.pow_add, ← Nat.div_div_eq_div_mul, Nat.pow_mul]
  generalize getL l / (2 ^ 8) ^ k = V
  have e : (256 : Nat) = 2 ^ m * 2 ^ (8 - m) := by rw [← Nat.pow_add, show m + (8 - m) = 8 from by omega]
  rw [e, Nat.mod_mul_right_div_self, show 8 - m = (7 - m) + 1 from by omega, Nat.pow_succ, Nat.mod_mul_left_mod]

end Go.Proofs.Ytkhihgilodhjfaa
