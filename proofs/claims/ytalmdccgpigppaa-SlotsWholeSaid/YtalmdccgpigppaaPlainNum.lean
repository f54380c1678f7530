/- Plain functions of package num: numbers as eight bytes, short bytes, turned ones. No program in sight. -/
import Derived.Test.YtalmdccgpigppaaTab
namespace Go.Proofs.Ytalmdccgpigppaa
open Go.RowKit

/-- A number as one without a sign, of 64 bits; and back. -/
def un (n : Int) : Nat := (n % 18446744073709551616).toNat
def sg (u : Nat) : Int := if u < 9223372036854775808 then (u : Int) else (u : Int) - 18446744073709551616
theorem un_lt (n : Int) : un n < 18446744073709551616 := by unfold un; omega
theorem sg_un {n : Int} (h0 : -9223372036854775808 ≤ n) (h1 : n ≤ 9223372036854775807) : sg (un n) = n := by unfold sg un; split <;> omega
theorem un_sg {u : Nat} (h : u < 18446744073709551616) : un (sg u) = u := by unfold sg un; split <;> omega
theorem sg_bd {u : Nat} (h : u < 18446744073709551616) : -9223372036854775808 ≤ sg u ∧ sg u ≤ 9223372036854775807 := by unfold sg; split <;> omega
theorem wrap_un (n : Int) : IntKind.u64.wrap n = (un n : Nat) := by rw [IntKind.wrap_u64]; unfold un; omega
theorem wrap_sg {u : Nat} (h : u < 18446744073709551616) : IntKind.i64.wrap (u : Int) = sg u := by rw [IntKind.wrap_i64]; unfold sg; split <;> omega

/-- Eight bytes, the lowest first. -/
def putL (u : Nat) : List UInt8 := tabB 8 (fun i => u / 256 ^ i % 256)
/-- The number of bytes, the lowest first. -/
def getL : List UInt8 → Nat
  | [] => 0
  | c :: l => c.toNat + 256 * getL l
theorem getL_lt (l : List UInt8) : getL l < 256 ^ l.length := by
  induction l with
  | nil => simp [getL]
  | cons c l ih =>
    have := c.toNat_lt
    simp only [getL, List.length_cons, Nat.pow_succ]
    omega
theorem putL_len (u : Nat) : (putL u).length = 8 := by simp [putL, tabB_len]
theorem getL_tab (u n : Nat) : getL (tabB n (fun i => u / 256 ^ i % 256)) = u % 256 ^ n := by
  induction n generalizing u with
  | zero => simp [tabB, getL, Nat.mod_one]
  | succ n ih =>
    have e : tabB (n + 1) (fun i => u / 256 ^ i % 256) = UInt8.ofNat (u % 256) :: tabB n (fun i => u / 256 / 256 ^ i % 256) := by
      unfold tabB
      rw [List.range_succ_eq_map, List.map_cons, List.map_map]
      congr 1
      · simp
      · apply List.map_congr_left
        intro i _
        simp only [Function.comp, Nat.succ_eq_add_one]
        rw [Nat.div_div_eq_div_mul, Nat.pow_succ, Nat.mul_comm 256]
    rw [e]
    simp only [getL]
    rw [ih, UInt8.toNat_ofNat_of_lt' (by simp [UInt8.size]; omega), Nat.pow_succ, Nat.mul_comm (256 ^ n) 256, Nat.mod_mul]
theorem getL_putL (u : Nat) (h : u < 18446744073709551616) : getL (putL u) = u := by
  unfold putL; rw [getL_tab]; exact Nat.mod_eq_of_lt (by omega)

/-- How many bytes a number's short bytes have that a list begins with, at most so many, from place i on; the error. -/
def endsL (most : Nat) : Nat → List UInt8 → Nat × Nat
  | i, [] => (0, if i < most then 10 else 11)
  | i, c :: l => if most ≤ i then (0, 11) else if c.toNat < 128 then (if 0 < i ∧ c.toNat = 0 then (0, 11) else (i + 1, 0)) else endsL most (i + 1) l
/-- The number of digits to the base 128, the lowest first. -/
def sevL : List UInt8 → Nat
  | [] => 0
  | c :: l => c.toNat % 128 + 128 * sevL l
/-- A number's digits, the lowest first: all but the last have 128 more. -/
def digL : Nat → Nat → List UInt8
  | 0, n => [UInt8.ofNat n]
  | f + 1, n => if n < 128 then [UInt8.ofNat n] else UInt8.ofNat (n % 128 + 128) :: digL f (n / 128)
/-- A number, turned: natural ones are doubled. -/
def zz (n : Int) : Nat := if 0 ≤ n then (2 * n).toNat else (-2 * n - 1).toNat
def unzz (u : Nat) : Int := if u % 2 = 0 then ((u / 2 : Nat) : Int) else -((u / 2 : Nat) : Int) - 1
theorem unzz_zz (n : Int) : unzz (zz n) = n := by
  unfold unzz zz
  by_cases h : 0 ≤ n
  · rw [if_pos h, if_pos (by omega)]; omega
  · rw [if_neg h, if_neg (by omega)]; omega
theorem zz_unzz (u : Nat) : zz (unzz u) = u := by
  unfold unzz
  by_cases h : u % 2 = 0
  · rw [if_pos h]; unfold zz; rw [if_pos (by omega)]; omega
  · rw [if_neg h]; unfold zz; rw [if_neg (by omega)]; omega
theorem zz_lt {n : Int} (h0 : -9223372036854775808 ≤ n) (h1 : n ≤ 9223372036854775807) : zz n < 18446744073709551616 := by unfold zz; split <;> omega
theorem unzz_bd {u : Nat} (h : u < 18446744073709551616) : -9223372036854775808 ≤ unzz u ∧ unzz u ≤ 9223372036854775807 := by unfold unzz; split <;> omega
theorem sevL_append (a b : List UInt8) : sevL (a ++ b) = sevL a + 128 ^ a.length * sevL b := by
  induction a with
  | nil => simp [sevL]
  | cons c a ih =>
    simp only [List.cons_append, sevL, List.length_cons, ih, Nat.pow_succ, Nat.mul_add]
    rw [← Nat.mul_assoc, Nat.mul_comm 128 (128 ^ a.length)]; omega
theorem sevL_lt (l : List UInt8) : sevL l < 128 ^ l.length := by
  induction l with
  | nil => simp [sevL]
  | cons c l ih => simp only [sevL, List.length_cons, Nat.pow_succ]; omega
theorem digL_lt' {f n : Nat} (h : n < 128) : digL f n = [UInt8.ofNat n] := by
  cases f with
  | zero => rfl
  | succ f => unfold digL; rw [if_pos h]
theorem digL_len (f : Nat) : ∀ n, (digL f n).length ≤ f + 1 ∧ 1 ≤ (digL f n).length := by
  induction f with
  | zero => intro n; simp [digL]
  | succ f ih =>
    intro n
    unfold digL
    split
    · simp
    · have := ih (n / 128); simp; omega

/-! ### What the readers answer -/
def longL (l : List UInt8) : Nat × Nat × Nat :=
  if (endsL 9 0 l).2 = 0 then (sevL (l.take (endsL 9 0 l).1), (endsL 9 0 l).1, 0) else (0, 0, (endsL 9 0 l).2)
def zagL (l : List UInt8) : Int × Nat × Nat :=
  if (endsL 10 0 l).2 = 0 then (if (endsL 10 0 l).1 = 10 ∧ 1 < byteAt l 9 then (0, 0, 11) else (unzz (sevL (l.take (endsL 10 0 l).1)), (endsL 10 0 l).1, 0)) else (0, 0, (endsL 10 0 l).2)

theorem endsL_le (most : Nat) (l : List UInt8) : ∀ i, (endsL most i l).2 = 0 → i < (endsL most i l).1 ∧ (endsL most i l).1 ≤ most ∧ (endsL most i l).1 ≤ i + l.length := by
  induction l with
  | nil => intro i h; unfold endsL at h; split at h <;> simp at h
  | cons c l ih =>
    intro i h
    unfold endsL at h ⊢
    by_cases h1 : most ≤ i
    · simp [h1] at h
    · rw [if_neg h1] at h ⊢
      by_cases h2 : c.toNat < 128
      · rw [if_pos h2] at h ⊢
        by_cases h3 : 0 < i ∧ c.toNat = 0
        · rw [if_pos h3] at h; simp at h
        · rw [if_neg h3]; simp only [List.length_cons]; omega
      · rw [if_neg h2] at h ⊢
        have := ih (i + 1) h
        simp only [List.length_cons]; omega
theorem endsL_err (most : Nat) (l : List UInt8) : ∀ i, (endsL most i l).2 ≠ 0 → (endsL most i l).1 = 0 ∧ ((endsL most i l).2 = 10 ∨ (endsL most i l).2 = 11) := by
  induction l with
  | nil => intro i _; unfold endsL; split <;> simp
  | cons c l ih =>
    intro i h
    unfold endsL at h ⊢
    by_cases h1 : most ≤ i
    · simp [h1]
    · rw [if_neg h1] at h ⊢
      by_cases h2 : c.toNat < 128
      · rw [if_pos h2] at h ⊢
        by_cases h3 : 0 < i ∧ c.toNat = 0
        · rw [if_pos h3]; simp
        · rw [if_neg h3] at h; simp at h
      · rw [if_neg h2] at h ⊢
        exact ih (i + 1) h
end Go.Proofs.Ytalmdccgpigppaa
