/- Parts: PlainCrc, RefCrc. -/
import Derived.Test.YtpmkpckldnnigaaGreatPr11
import Derived.Test.YtpmkpckldnnigaaGreatPr02
import Derived.Test.YtpmkpckldnnigaaGreatPr04
namespace Go.Proofs.YtpmkpckldnnigaaGreat

theorem xor_div2 (x y : Nat) : (x ^^^ y) / 2 = (x / 2) ^^^ (y / 2) := by
  have h := Nat.shiftRight_xor_distrib (a := x) (b := y) (i := 1)
  simpa [Nat.shiftRight_eq_div_pow] using h
theorem xor_mod2 (x y : Nat) : (x ^^^ y) % 2 = (x % 2 + y % 2) % 2 := by
  have h := Nat.testBit_xor x y 0
  simp only [Nat.testBit_zero] at h
  rcases Nat.mod_two_eq_zero_or_one x with hx | hx <;> rcases Nat.mod_two_eq_zero_or_one y with hy | hy <;> rcases Nat.mod_two_eq_zero_or_one (x ^^^ y) with hz | hz <;> simp [hx, hy, hz] at h ⊢
theorem crcBit_xor (x y : Nat) : crcBit (x ^^^ y) = crcBit x ^^^ crcBit y := by
  unfold crcBit
  rw [xor_div2, xor_mod2]
  have hk : ∀ a b k : Nat, a ^^^ k ^^^ (b ^^^ k) = a ^^^ b := fun a b k => by
    rw [Nat.xor_comm b k, Nat.xor_assoc, ← Nat.xor_assoc k k b, Nat.xor_self, Nat.zero_xor]
  have hk2 : ∀ a b k : Nat, a ^^^ b ^^^ k = a ^^^ k ^^^ b := fun a b k => by rw [Nat.xor_assoc, Nat.xor_comm b k, ← Nat.xor_assoc]
  rcases Nat.mod_two_eq_zero_or_one x with hx | hx <;> rcases Nat.mod_two_eq_zero_or_one y with hy | hy <;> simp only [hx, hy] <;> simp
  · rw [Nat.xor_assoc]
  · rw [hk2]
  · rw [hk]
theorem crcBits_xor (k : Nat) : ∀ x y : Nat, crcBits k (x ^^^ y) = crcBits k x ^^^ crcBits k y := by
  induction k with
  | zero => intro x y; rfl
  | succ k ih => intro x y; show crcBits k _ = crcBits k _ ^^^ crcBits k _; rw [crcBit_xor, ih]
/-! ### What was turned within four bytes is told -/
theorem crcBits_shift (k x : Nat) : crcBits k (x * 2 ^ k) = x := by
  induction k with
  | zero => show x * 1 = x; omega
  | succ k ih =>
    show crcBits k (crcBit (x * 2 ^ (k + 1))) = x
    have : crcBit (x * 2 ^ (k + 1)) = x * 2 ^ k := by
      unfold crcBit
      rw [Nat.pow_succ, ← Nat.mul_assoc, if_neg (by omega)]; omega
    rw [this, ih]
theorem crcBits_add (j k : Nat) : ∀ x, crcBits j (crcBits k x) = crcBits (k + j) x := by
  induction k with
  | zero => intro x; rw [Nat.zero_add]; rfl
  | succ k ih => intro x; rw [show k + 1 + j = (k + j) + 1 from by omega]; exact ih _
/-- The differences of two runs over four bytes. -/
theorem four (x0 x1 x2 x3 : Nat) : crcStep (crcStep (crcStep (crcStep 0 x0) x1) x2) x3 = crcBits 32 (x0 ^^^ x1 * 2 ^ 8 ^^^ x2 * 2 ^ 16 ^^^ x3 * 2 ^ 24) := by
  have s : ∀ (k u x : Nat), crcStep (crcBits k u) x = crcBits (k + 8) (u ^^^ x * 2 ^ k) := fun k u x => by
    unfold crcStep
    rw [← crcBits_add 8 k, crcBits_xor k, crcBits_shift]
  have h0 : crcStep 0 x0 = crcBits 8 x0 := by unfold crcStep; rw [Nat.zero_xor]
  rw [h0, s, s, s]
end Go.Proofs.YtpmkpckldnnigaaGreat
namespace Go.Proofs.YtpmkpckldnnigaaGreat
open Go.RowKit

end Go.Proofs.YtpmkpckldnnigaaGreat
