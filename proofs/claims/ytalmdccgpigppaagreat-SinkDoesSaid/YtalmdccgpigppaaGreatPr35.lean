/- Parts: PlainNumB, PlainNumC. -/
import Derived.Test.YtalmdccgpigppaaGreatPr03
namespace Go.Proofs.YtalmdccgpigppaaGreat
open Go.RowKit

theorem bit_test (x k : Nat) : bit x k = (x.testBit k).toNat := by
  unfold bit; rw [Nat.testBit_eq_decide_div_mod_eq]
  rcases Nat.mod_two_eq_zero_or_one (x / 2 ^ k) with h | h <;> simp [h]
theorem bit_flip {n U k : Nat} (hU : U < 2 ^ n) (hk : k < n) : bit (2 ^ n - (U + 1)) k = 1 - bit U k := by
  rw [bit_test, bit_test, Nat.testBit_two_pow_sub_succ hU]
  simp [hk]
  cases U.testBit k <;> rfl
theorem bit_zero (V s : Nat) (hs : s ≤ 1) : bit (2 * V + s) 0 = s := by unfold bit; rw [Nat.pow_zero, Nat.div_one]; omega
theorem bit_double (V s k : Nat) (hs : s ≤ 1) : bit (2 * V + s) (k + 1) = bit V k := by
  unfold bit; rw [Nat.pow_succ, Nat.mul_comm (2 ^ k) 2, ← Nat.div_div_eq_div_mul, show (2 * V + s) / 2 = V from by omega]

theorem zz_parts {n : Int} (h0 : -9223372036854775808 ≤ n) (h1 : n ≤ 9223372036854775807) :
    zz n = 2 * (if bit (un n) 63 = 1 then 2 ^ 64 - (un n + 1) else un n) + bit (un n) 63 := by
  have hb : bit (un n) 63 = un n / 9223372036854775808 % 2 := rfl
  unfold zz
  have hu : un n = (n % 18446744073709551616).toNat := rfl
  rw [hb]
  by_cases hn : 0 ≤ n
  · rw [if_pos hn, if_neg (by omega)]; omega
  · rw [if_neg hn, if_pos (by omega)]; omega
theorem bit_zz0 {n : Int} (h0 : -9223372036854775808 ≤ n) (h1 : n ≤ 9223372036854775807) : bit (zz n) 0 = bit (un n) 63 := by
  rw [zz_parts h0 h1, bit_zero _ _ (bit_le _ _)]
theorem bit_zz {n : Int} (h0 : -9223372036854775808 ≤ n) (h1 : n ≤ 9223372036854775807) (k : Nat) (hk : k < 63) : bit (zz n) (k + 1) = if bit (un n) 63 = 1 then 1 - bit (un n) k else bit (un n) k := by
  rw [zz_parts h0 h1, bit_double _ _ _ (bit_le _ _)]
  split
  · exact bit_flip (un_lt n) (by omega)
  · rfl

/-- Digits to the base 128: how many there are. -/
theorem digL_pos (f : Nat) : ∀ Z, Z < 128 ^ (f + 1) → Z < 128 ^ (digL f Z).length ∧ ((digL f Z).length = 1 ∨ 128 ^ ((digL f Z).length - 1) ≤ Z) := by
  induction f with
  | zero => intro Z h; simp [digL]; omega
  | succ f ih =>
    intro Z h
    by_cases hz : Z < 128
    · unfold digL; rw [if_pos hz]; simp; omega
    · have e := ih (Z / 128) (by rw [Nat.pow_succ] at h; omega)
      have hl := (digL_len f (Z / 128)).2
      unfold digL; rw [if_neg hz]
      simp only [List.length_cons]
      generalize (digL f (Z / 128)).length = m at *
      have e2 : 128 ^ m = 128 ^ (m - 1) * 128 := by
        cases m with
        | zero => omega
        | succ q => rw [Nat.pow_succ]; rfl
      refine ⟨by rw [Nat.pow_succ]; omega, .inr ?_⟩
      show 128 ^ (m + 1 - 1) ≤ Z
      rw [Nat.add_sub_cancel]
      rcases e.2 with h1 | h1
      · subst h1; omega
      · omega
theorem digL_tab (f : Nat) : ∀ Z, Z < 128 ^ (f + 1) → digL f Z = tabB (digL f Z).length (fun i => if i + 1 < (digL f Z).length then Z / 128 ^ i % 128 + 128 else Z / 128 ^ i % 128) := by
  induction f with
  | zero => intro Z h; simp [digL, tabB, show Z % 128 = Z from by omega]
  | succ f ih =>
    intro Z h
    by_cases hz : Z < 128
    · have : digL (f + 1) Z = [UInt8.ofNat Z] := digL_lt' hz
      rw [this]; simp [tabB, show Z % 128 = Z from by omega]
    · have hl := (digL_len f (Z / 128)).2
      have e := ih (Z / 128) (by rw [Nat.pow_succ] at h; omega)
      have hd : digL (f + 1) Z = UInt8.ofNat (Z % 128 + 128) :: digL f (Z / 128) := by
        conv => lhs; unfold digL
        rw [if_neg hz]
      rw [hd]
      simp only [List.length_cons]
      conv => lhs; rw [e]
      unfold tabB
      rw [List.range_succ_eq_map, List.map_cons, List.map_map]
      congr 1
      · dsimp only; rw [if_pos (by omega)]; simp
      · apply List.map_congr_left
        intro i _
        simp only [Function.comp, Nat.succ_eq_add_one, Nat.add_lt_add_iff_right]
        rw [Nat.div_div_eq_div_mul, Nat.pow_succ, Nat.mul_comm 128]
end Go.Proofs.YtalmdccgpigppaaGreat
namespace Go.Proofs.YtalmdccgpigppaaGreat
open Go.RowKit

theorem u8_ofNat_toNat {v : Nat} (h : v < 256) : (UInt8.ofNat v).toNat = v := UInt8.toNat_ofNat_of_lt' (by simp [UInt8.size]; omega)
theorem endsL_dig (f : Nat) : ∀ (i most Z : Nat) (more : List UInt8), i + (digL f Z).length ≤ most → (0 < i → 0 < Z) → Z < 128 ^ (f + 1) → endsL most i (digL f Z ++ more) = (i + (digL f Z).length, 0) := by
  induction f with
  | zero =>
    intro i most Z more h1 h2 h3
    simp only [digL, List.length_singleton] at h1 ⊢
    simp only [List.singleton_append, endsL]
    rw [if_neg (by omega), u8_ofNat_toNat (by omega), if_pos (by omega), if_neg (by omega)]
  | succ f ih =>
    intro i most Z more h1 h2 h3
    by_cases hz : Z < 128
    · have e : digL (f + 1) Z = [UInt8.ofNat Z] := by conv => lhs; unfold digL
                                                      rw [if_pos hz]
      rw [e] at h1 ⊢
      simp only [List.length_singleton] at h1 ⊢
      simp only [List.singleton_append, endsL]
      rw [if_neg (by omega), u8_ofNat_toNat (by omega), if_pos (by omega), if_neg (by omega)]
    · have e : digL (f + 1) Z = UInt8.ofNat (Z % 128 + 128) :: digL f (Z / 128) := by conv => lhs; unfold digL
                                                                                      rw [if_neg hz]
      rw [e] at h1 ⊢
      simp only [List.length_cons] at h1 ⊢
      have hp : Z / 128 < 128 ^ (f + 1) := by rw [Nat.pow_succ] at h3; omega
      simp only [List.cons_append, endsL]
      rw [if_neg (by omega), u8_ofNat_toNat (by omega), if_neg (by omega), ih (i + 1) most (Z / 128) more (by omega) (by omega) hp]
      congr 1; omega
theorem sevL_dig (f : Nat) : ∀ Z, Z < 128 ^ (f + 1) → sevL (digL f Z) = Z := by
  induction f with
  | zero => intro Z h; simp only [digL, sevL]; rw [u8_ofNat_toNat (by omega)]; omega
  | succ f ih =>
    intro Z h
    by_cases hz : Z < 128
    · rw [digL_lt' hz]; simp only [sevL]; rw [u8_ofNat_toNat (by omega)]; omega
    · have e : digL (f + 1) Z = UInt8.ofNat (Z % 128 + 128) :: digL f (Z / 128) := by conv => lhs; unfold digL
                                                                                      rw [if_neg hz]
      rw [e]
      simp only [sevL]
      rw [u8_ofNat_toNat (by omega), ih _ (by rw [Nat.pow_succ] at h; omega)]
      omega
/-- The bytes that a reader takes are the shortest for their number. -/
theorem dig_sevL (most : Nat) (l : List UInt8) : ∀ (i k f : Nat), endsL most i l = (i + k, 0) → k ≤ f + 1 → digL f (sevL (l.take k)) = l.take k ∧ (0 < i → 0 < sevL (l.take k)) := by
  induction l with
  | nil => intro i k f h hk; simp [endsL] at h; have := h.2; split at this <;> omega
  | cons c l ih =>
    intro i k f h hk
    have hc := c.toNat_lt
    have hle := endsL_le most (c :: l) i (by rw [h])
    rw [h] at hle
    simp only at hle
    unfold endsL at h
    by_cases h1 : most ≤ i
    · simp [h1] at h
    · rw [if_neg h1] at h
      by_cases h2 : c.toNat < 128
      · rw [if_pos h2] at h
        by_cases h3 : 0 < i ∧ c.toNat = 0
        · rw [if_pos h3] at h; simp at h
        · rw [if_neg h3] at h
          have hk1 : k = 1 := by have := congrArg Prod.fst h; simp only at this; omega
          subst hk1
          have e : sevL ((c :: l).take 1) = c.toNat := by simp [sevL]; omega
          rw [e, digL_lt' h2]
          refine ⟨by simp, fun hi => by omega⟩
      · rw [if_neg h2] at h
        obtain ⟨k, rfl⟩ : ∃ j, k = j + 1 := ⟨k - 1, by omega⟩
        have hle2 := endsL_le most l (i + 1) (by rw [h])
        rw [h] at hle2
        simp only at hle2
        obtain ⟨f, rfl⟩ : ∃ j, f = j + 1 := ⟨f - 1, by omega⟩
        have h4 := ih (i + 1) k f (by rw [h]; congr 1; omega) (by omega)
        have h5 := h4.2 (by omega)
        have e : sevL ((c :: l).take (k + 1)) = c.toNat % 128 + 128 * sevL (l.take k) := by simp [sevL]
        rw [e]
        refine ⟨?_, fun _ => by omega⟩
        have e2 : ∀ Z, ¬ Z < 128 → digL (f + 1) Z = UInt8.ofNat (Z % 128 + 128) :: digL f (Z / 128) := fun Z hZ => by
          conv => lhs; unfold digL
          rw [if_neg hZ]
        rw [e2 _ (by omega), List.take_succ_cons, show (c.toNat % 128 + 128 * sevL (l.take k)) / 128 = sevL (l.take k) from by omega, h4.1]
        congr 1
        rw [show (c.toNat % 128 + 128 * sevL (l.take k)) % 128 + 128 = c.toNat from by omega]
        simp
theorem digL_ten (Z : Nat) (h : Z < 18446744073709551616) (more : List UInt8) : (digL 9 Z).length ≠ 10 ∨ byteAt (digL 9 Z ++ more) 9 ≤ 1 := by
  by_cases hl : (digL 9 Z).length = 10
  · refine .inr ?_
    have e := digL_tab 9 Z (by omega)
    rw [hl] at e
    have e2 : byteAt (digL 9 Z ++ more) 9 = byteAt (digL 9 Z) 9 := by
      unfold byteAt; rw [List.getD_eq_getElem?_getD, List.getD_eq_getElem?_getD, List.getElem?_append_left (by omega)]
    rw [e2, e, tabB_at _ (by omega) (by simp; omega)]
    simp; omega
  · exact .inl hl
end Go.Proofs.YtalmdccgpigppaaGreat
