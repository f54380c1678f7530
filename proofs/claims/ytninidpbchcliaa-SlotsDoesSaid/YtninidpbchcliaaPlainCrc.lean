/- Plain laws of the sum: it is linear, and it tells what was turned within four bytes. No program in sight. -/
import Derived.Test.YtninidpbchcliaaPlainA
namespace Go.Proofs.Ytninidpbchcliaa

theorem xor_div2 (x y : Nat) : (x ^^^ y) / 2 = (x / 2) ^^^ (y / 2) := by
  have h := Nat.shiftRight_xor_distrib (a := x) (b := y) (i := 1)
  simpa [Nat.shiftRight_eq_div_pow] using h
theorem xor_mod2 (x y : Nat) : (x ^^^ y) % 2 = (x % 2 + y % 2) % 2 := by
  have h := Nat.testBit_xor x y 0
  simp only [Nat.testBit_zero] at h
  rcases Nat.mod_two_eq_zero_or_one x with hx | hx <;> rcases Nat.mod_two_eq_zero_or_one y with hy | hy <;> rcases Nat.mod_two_eq_zero_or_one (x ^^^ y) with hz | hz <;> simp [hx, hy, hz] at h ⊢
theorem crcBit_xor (x y : Nat) : crcBit (x ^^^ y) = crcBit x ^^^ crcBit y := by
  unfold crcBit
  rw [xor_div2, xor_mod2]
  have hk : ∀ a b k : Nat, a ^^^ k ^^^ (b ^^^ k) = a ^^^ b := fun a b k => by
    rw [Nat.xor_comm b k, Nat.xor_assoc, ← Nat.xor_assoc k k b, Nat.xor_self, Nat.zero_xor]
  have hk2 : ∀ a b k : Nat, a ^^^ b ^^^ k = a ^^^ k ^^^ b := fun a b k => by rw [Nat.xor_assoc, Nat.xor_comm b k, ← Nat.xor_assoc]
  rcases Nat.mod_two_eq_zero_or_one x with hx | hx <;> rcases Nat.mod_two_eq_zero_or_one y with hy | hy <;> simp only [hx, hy] <;> simp
  · rw [Nat.xor_assoc]
  · rw [hk2]
  · rw [hk]
theorem crcBits_xor (k : Nat) : ∀ x y : Nat, crcBits k (x ^^^ y) = crcBits k x ^^^ crcBits k y := by
  induction k with
  | zero => intro x y; rfl
  | succ k ih => intro x y; show crcBits k _ = crcBits k _ ^^^ crcBits k _; rw [crcBit_xor, ih]
theorem crcStep_xor (c d a b : Nat) : crcStep (c ^^^ d) (a ^^^ b) = crcStep c a ^^^ crcStep d b := by
  unfold crcStep
  rw [← crcBits_xor]
  congr 1
  rw [Nat.xor_assoc, Nat.xor_assoc, ← Nat.xor_assoc d a b, Nat.xor_comm d a, Nat.xor_assoc a d b]

theorem crcFold_zip (a b : List UInt8) : ∀ (c d : Nat), a.length = b.length → crcFold (c ^^^ d) (List.zipWith (· ^^^ ·) a b) = crcFold c a ^^^ crcFold d b := by
  induction a generalizing b with
  | nil => intro c d h; cases b with
    | nil => rfl
    | cons y b => simp at h
  | cons x a ih => intro c d h; cases b with
    | nil => simp at h
    | cons y b =>
      have hl : a.length = b.length := by simpa using h
      show crcFold (crcStep (c ^^^ d) (x ^^^ y).toNat) _ = crcFold (crcStep c x.toNat) a ^^^ crcFold (crcStep d y.toNat) b
      rw [UInt8.toNat_xor, crcStep_xor]
      exact ih b _ _ hl

theorem sub_eq_xor (x : Nat) (h : x < 4294967296) : 4294967295 - x = 4294967295 ^^^ x := by
  have h1 := u32_not x h
  have h2 := u32_xor 4294967295 x (by omega) h
  have h3 : (IntKind.u32.max) = ((4294967295 : Nat) : Int) := by decide
  rw [h3, h2] at h1
  omega
theorem crcMore_xor (s : Nat) (hs : s < 4294967296) (l : List UInt8) : crcMore s l = 4294967295 ^^^ crcFold (4294967295 ^^^ s) l := by
  unfold crcMore
  rw [sub_eq_xor s hs, sub_eq_xor _ (crcFold_lt l (u32_lt_xor (by omega) hs))]
theorem crcSum_one (l : List UInt8) : crcSum [l] = 4294967295 ^^^ crcFold 4294967295 l := by
  have := crcMore_xor 0 (by omega) l
  simpa [crcSum] using this

def mix (a b c : List UInt8) : List UInt8 := (List.zipWith (· ^^^ ·) (List.zipWith (· ^^^ ·) a b) c)
theorem crc_mix (a b c : List UInt8) (h : a.length = b.length) (h2 : b.length = c.length) : crcSum [mix a b c] = crcSum [a] ^^^ crcSum [b] ^^^ crcSum [c] := by
  have e := crcFold_zip (List.zipWith (· ^^^ ·) a b) c (4294967295 ^^^ 4294967295) 4294967295 (by simp; omega)
  rw [crcFold_zip a b 4294967295 4294967295 h] at e
  simp only [crcSum_one]
  have e2 : mix a b c = List.zipWith (· ^^^ ·) (List.zipWith (· ^^^ ·) a b) c := rfl
  rw [e2]
  rw [show (4294967295 : Nat) ^^^ 4294967295 ^^^ 4294967295 = 4294967295 from by decide] at e
  rw [e]
  generalize crcFold 4294967295 a = x
  generalize crcFold 4294967295 b = y
  generalize crcFold 4294967295 c = z
  generalize (4294967295 : Nat) = n
  have : n ^^^ x ^^^ (n ^^^ y) ^^^ (n ^^^ z) = (n ^^^ n) ^^^ (n ^^^ (x ^^^ y ^^^ z)) := by ac_rfl
  rw [this, Nat.xor_self, Nat.zero_xor]

/-! ### What was turned within four bytes is told -/
theorem crcBit_zero {x : Nat} (hx : x < 4294967296) (h : crcBit x = 0) : x = 0 := by
  unfold crcBit at h
  split at h
  · rename_i h1
    exfalso
    have : x / 2 = 3988292384 := by
      have := congrArg (· ^^^ 3988292384) h
      simpa [Nat.xor_assoc] using this
    omega
  · omega
theorem crcBits_zero (k : Nat) : ∀ {x : Nat}, x < 4294967296 → crcBits k x = 0 → x = 0 := by
  induction k with
  | zero => intro x _ h; exact h
  | succ k ih => intro x hx h; exact crcBit_zero hx (ih (crcBit_lt hx) h)
theorem crcBits_shift (k x : Nat) : crcBits k (x * 2 ^ k) = x := by
  induction k with
  | zero => show x * 1 = x; omega
  | succ k ih =>
    show crcBits k (crcBit (x * 2 ^ (k + 1))) = x
    have : crcBit (x * 2 ^ (k + 1)) = x * 2 ^ k := by
      unfold crcBit
      rw [Nat.pow_succ, ← Nat.mul_assoc, if_neg (by omega)]; omega
    rw [this, ih]
theorem crcBits_add (j k : Nat) : ∀ x, crcBits j (crcBits k x) = crcBits (k + j) x := by
  induction k with
  | zero => intro x; rw [Nat.zero_add]; rfl
  | succ k ih => intro x; rw [show k + 1 + j = (k + j) + 1 from by omega]; exact ih _
/-- The differences of two runs over four bytes. -/
theorem four (x0 x1 x2 x3 : Nat) : crcStep (crcStep (crcStep (crcStep 0 x0) x1) x2) x3 = crcBits 32 (x0 ^^^ x1 * 2 ^ 8 ^^^ x2 * 2 ^ 16 ^^^ x3 * 2 ^ 24) := by
  have s : ∀ (k u x : Nat), crcStep (crcBits k u) x = crcBits (k + 8) (u ^^^ x * 2 ^ k) := fun k u x => by
    unfold crcStep
    rw [← crcBits_add 8 k, crcBits_xor k, crcBits_shift]
  have h0 : crcStep 0 x0 = crcBits 8 x0 := by unfold crcStep; rw [Nat.zero_xor]
  rw [h0, s, s, s]
end Go.Proofs.Ytninidpbchcliaa
