/- Contracts of the reference of num: bits, eight bytes. -/
import Derived.Test.YtkhihgilodhjfaaPlainNum
namespace Go.Proofs.Ytkhihgilodhjfaa
open Go.RowKit

theorem bit_un (n : Int) (k : Nat) (hk : k < 64) : ((bit (un n) k : Nat) : Int) = n / 2 ^ k % 2 := by
  unfold bit un
  have h1 : ((n % 18446744073709551616).toNat : Int) = n % 18446744073709551616 := Int.toNat_of_nonneg (by omega)
  rw [Int.natCast_emod, Int.natCast_ediv, h1]
  have h2 : (18446744073709551616 : Int) = 2 ^ k * 2 ^ (64 - k) := by
    rw [← Int.pow_add, show k + (64 - k) = 64 from by omega]; rfl
  have h3 : (2 : Int) ^ (64 - k) = 2 * 2 ^ (63 - k) := by
    rw [show 64 - k = (63 - k) + 1 from by omega, Int.pow_succ, Int.mul_comm]
  have h4 : n % 18446744073709551616 = n - 18446744073709551616 * (n / 18446744073709551616) := by omega
  have hp : (2 : Int) ^ k ≠ 0 := by
    have : (0 : Int) < 2 ^ k := Int.pow_pos (by omega)
    omega
  generalize hq : n / 18446744073709551616 = q at *
  rw [h4, h2, h3]
  have e : n - 2 ^ k * (2 * 2 ^ (63 - k)) * q = n + 2 ^ k * (-(2 * (2 ^ (63 - k) * q))) := by
    rw [Int.mul_neg, ← Int.mul_assoc, ← Int.mul_assoc, ← Int.mul_assoc]; omega
  rw [e]
  have e2 : (((2 ^ k : Nat) : Int)) = 2 ^ k := by simp
  rw [e2, Int.add_mul_ediv_left _ _ hp]
  have : ((2 : Nat) : Int) = 2 := rfl
  rw [this]
  generalize 2 ^ (63 - k) * q = z
  omega

theorem tm2 (x : Int) (h : x < 0) : x.tmod 2 = -((-x) % 2) := by
  have e := Int.neg_tmod (-x) 2
  rw [Int.neg_neg, show (-x).tmod 2 = (-x) % 2 from Int.tmod_eq_emod_of_nonneg (by omega)] at e
  exact e
theorem td2 (x : Int) (h : x < 0) : x.tdiv 2 = -((-x) / 2) := by
  have e := Int.neg_tdiv (-x) 2
  rw [Int.neg_neg, show (-x).tdiv 2 = (-x) / 2 from Int.tdiv_eq_ediv_of_nonneg (by omega)] at e
  exact e
set_option maxRecDepth 100000 in
theorem bit_any (n : Int) (k : Nat) (w : World) (h0 : -9223372036854775808 ≤ n) (h1 : n ≤ 9223372036854775807) (hk : k < 64) :
    Calls Try.prog 86 #[.int .i64 n, .int .i64 k] w fun e w' => e = .returned (.int .i64 (bit (un n) k : Nat)) ∧ w = w' := by
  have hbit := Lib.hid (bit_un n k hk)
  generalize bit (un n) k = z at *
  have Hn := Lib.hid (rfl : n = n)
  go_enter Try.func86, Try.ntmps86
  go_wp2
  go_loop [0, 5] (fun xx ii => ∃ j x, j ≤ k ∧ ii = .int .i64 (j : Nat) ∧ xx = .int .i64 (x : Int) ∧ Hid (x = n / 2 ^ j) ∧ -9223372036854775808 ≤ x ∧ x ≤ 9223372036854775807) (fun _ ii => k - (intOf ii).toNat)
  case atStart => exact ⟨0, n, Nat.zero_le _, rfl, rfl, by show n = n / 2 ^ 0; simp, h0, h1⟩
  case round =>
    obtain ⟨j, x, hj, rfl, rfl, hx, hx0, hx1⟩ := hrel
    by_cases hlt : j < k
    · have hx2 : Hid (x / 2 = n / 2 ^ (j + 1)) := by
        show _ = _
        rw [hx.out, Int.pow_succ, Int.ediv_ediv_of_nonneg (by have : (0 : Int) < 2 ^ j := Int.pow_pos (by omega); omega)]
      by_cases hpos : 0 ≤ x
      · have hn : ¬ x < 0 := by omega
        have b1 : -9223372036854775808 ≤ x / 2 ∧ x / 2 ≤ 9223372036854775807 := by omega
        go_wp2
        go_round
        case rel => exact ⟨j + 1, x / 2, by omega, by go_num, rfl, hx2, b1.1, b1.2⟩
        case measure => simp [intOf]; omega
      · have hn : x < 0 := by omega
        by_cases hodd : x % 2 = 1
        · have e1 : (x.tmod 2 != 0) = true := by rw [bne_iff_ne, tm2 x hn]; omega
          have hx0' : -9223372036854775807 ≤ x := by omega
          have e2 : (x - 1).tdiv 2 = x / 2 := by rw [td2 _ (by omega)]; omega
          have b1 : -9223372036854775808 ≤ x / 2 ∧ x / 2 ≤ 9223372036854775807 := by omega
          clear hodd
          go_wp2
          go_round
          case rel => exact ⟨j + 1, x / 2, by omega, by go_num, rfl, hx2, b1.1, b1.2⟩
          case measure => simp [intOf]; omega
        · have e1 : (x.tmod 2 != 0) = false := by rw [bne_eq_false_iff_eq, tm2 x hn]; omega
          have e2 : x.tdiv 2 = x / 2 := by rw [td2 _ (by omega)]; omega
          have b1 : -9223372036854775808 ≤ x / 2 ∧ x / 2 ≤ 9223372036854775807 := by omega
          clear hodd
          go_wp2
          go_round
          case rel => exact ⟨j + 1, x / 2, by omega, by go_num, rfl, hx2, b1.1, b1.2⟩
          case measure => simp [intOf]; omega
    · have hjk : j = k := by omega
      subst hjk
      have hfin : Hid ((z : Int) = x % 2) := by show _ = _; rw [hbit.out, hx.out]
      have hz : x.tmod 2 = 0 ∨ (x.tmod 2 == 0) = false := by
        by_cases h : x.tmod 2 = 0
        · exact .inl h
        · exact .inr (by rw [beq_eq_false_iff_ne]; exact h)
      have hp : x % 2 = 0 ↔ x.tmod 2 = 0 := by
        by_cases hpos : 0 ≤ x
        · rw [Int.tmod_eq_emod_of_nonneg hpos]
        · rw [tm2 x (by omega)]; omega
      by_cases h2 : x % 2 = 0
      · have e0 : (x.tmod 2 == 0) = true := by rw [beq_iff_eq]; exact hp.1 h2
        have e0' : (x % 2 == 0) = true := by rw [beq_iff_eq]; exact h2
        have hf : Hid ((z : Int) = 0) := by show _ = _; rw [hfin.out]; exact h2
        clear hp hz h2 hfin
        go_wp2
        go_ret
        exact ⟨ret_int hf.out.symm, rfl⟩
      · have e0 : (x.tmod 2 == 0) = false := by rw [beq_eq_false_iff_ne]; intro h; exact h2 (hp.2 h)
        have e0' : (x % 2 == 0) = false := by rw [beq_eq_false_iff_ne]; exact h2
        have hf : Hid ((z : Int) = 1) := by show _ = _; rw [hfin.out]; omega
        clear hp hz h2 hfin
        go_wp2
        go_ret
        exact ⟨ret_int hf.out.symm, rfl⟩
end Go.Proofs.Ytkhihgilodhjfaa
