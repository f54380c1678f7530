/- Plain laws: bits of turned numbers, digits by their places. No program in sight. -/
import Derived.Test.YtkhihgilodhjfaaPlainNum
namespace Go.Proofs.Ytkhihgilodhjfaa
open Go.RowKit

theorem bit_test (x k : Nat) : bit x k = (x.testBit k).toNat := by
  unfold bit; rw [Nat.testBit_eq_decide_div_mod_eq]
  rcases Nat.mod_two_eq_zero_or_one (x / 2 ^ k) with h | h <;> simp [h]
theorem bit_flip {n U k : Nat} (hU : U < 2 ^ n) (hk : k < n) : bit (2 ^ n - (U + 1)) k = 1 - bit U k := by
  rw [bit_test, bit_test, Nat.testBit_two_pow_sub_succ hU]
  simp [hk]
  cases U.testBit k <;> rfl
theorem bit_zero (V s : Nat) (hs : s ≤ 1) : bit (2 * V + s) 0 = s := by unfold bit; rw [Nat.pow_zero, Nat.div_one]; omega
theorem bit_double (V s k : Nat) (hs : s ≤ 1) : bit (2 * V + s) (k + 1) = bit V k := by
  unfold bit; rw [Nat.pow_succ, Nat.mul_comm (2 ^ k) 2, ← Nat.div_div_eq_div_mul, show (2 * V + s) / 2 = V from by omega]

theorem zz_parts {n : Int} (h0 : -9223372036854775808 ≤ n) (h1 : n ≤ 9223372036854775807) :
    zz n = 2 * (if bit (un n) 63 = 1 then 2 ^ 64 - (un n + 1) else un n) + bit (un n) 63 := by
  have hb : bit (un n) 63 = un n / 9223372036854775808 % 2 := rfl
  unfold zz
  have hu : un n = (n % 18446744073709551616).toNat := rfl
  rw [hb]
  by_cases hn : 0 ≤ n
  · rw [if_pos hn, if_neg (by omega)]; omega
  · rw [if_neg hn, if_pos (by omega)]; omega
theorem bit_zz0 {n : Int} (h0 : -9223372036854775808 ≤ n) (h1 : n ≤ 9223372036854775807) : bit (zz n) 0 = bit (un n) 63 := by
  rw [zz_parts h0 h1, bit_zero _ _ (bit_le _ _)]
theorem bit_zz {n : Int} (h0 : -9223372036854775808 ≤ n) (h1 : n ≤ 9223372036854775807) (k : Nat) (hk : k < 63) : bit (zz n) (k + 1) = if bit (un n) 63 = 1 then 1 - bit (un n) k else bit (un n) k := by
  rw [zz_parts h0 h1, bit_double _ _ _ (bit_le _ _)]
  split
  · exact bit_flip (un_lt n) (by omega)
  · rfl

/-- Digits to the base 128: how many there are. -/
theorem digL_pos (f : Nat) : ∀ Z, Z < 128 ^ (f + 1) → Z < 128 ^ (digL f Z).length ∧ ((digL f Z).length = 1 ∨ 128 ^ ((digL f Z).length - 1) ≤ Z) := by
  induction f with
  | zero => intro Z h; simp [digL]; omega
  | succ f ih =>
    intro Z h
    by_cases hz : Z < 128
    · unfold digL; rw [if_pos hz]; simp; omega
    · have e := ih (Z / 128) (by rw [Nat.pow_succ] at h; omega)
      have hl := (digL_len f (Z / 128)).2
      unfold digL; rw [if_neg hz]
      simp only [List.length_cons]
      generalize (digL f (Z / 128)).length = m at *
      have e2 : 128 ^ m = 128 ^ (m - 1) * 128 := by
        cases m with
        | zero => omega
        | succ q => rw [Nat.pow_succ]; rfl
      refine ⟨by rw [Nat.pow_succ]; omega, .inr ?_⟩
      show 128 ^ (m + 1 - 1) ≤ Z
      rw [Nat.add_sub_cancel]
      rcases e.2 with h1 | h1
      · subst h1; omega
      · omega
theorem digL_tab (f : Nat) : ∀ Z, Z < 128 ^ (f + 1) → digL f Z = tabB (digL f Z).length (fun i => if i + 1 < (digL f Z).length then Z / 128 ^ i % 128 + 128 else Z / 128 ^ i % 128) := by
  induction f with
  | zero => intro Z h; simp [digL, tabB, show Z % 128 = Z from by omega]
  | succ f ih =>
    intro Z h
    by_cases hz : Z < 128
    · have : digL (f + 1) Z = [UInt8.ofNat Z] := digL_lt' hz
      rw [this]; simp [tabB, show Z % 128 = Z from by omega]
    · have hl := (digL_len f (Z / 128)).2
      have e := ih (Z / 128) (by rw [Nat.pow_succ] at h; omega)
      have hd : digL (f + 1) Z = UInt8.ofNat (Z % 128 + 128) :: digL f (Z / 128) := by
        conv => lhs; unfold digL
        rw [if_neg hz]
      rw [hd]
      simp only [List.length_cons]
      conv => lhs; rw [e]
      unfold tabB
      rw [List.range_succ_eq_map, List.map_cons, List.map_map]
      congr 1
      · dsimp only; rw [if_pos (by omega)]; simp
      · apply List.map_congr_left
        intro i _
        simp only [Function.comp, Nat.succ_eq_add_one, Nat.add_lt_add_iff_right]
        rw [Nat.div_div_eq_div_mul, Nat.pow_succ, Nat.mul_comm 128]
end Go.Proofs.Ytkhihgilodhjfaa
