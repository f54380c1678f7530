/- Plain laws: what short bytes begin with; short bytes are read back, and only the shortest are read. No program in sight. -/
import Derived.Test.YtkhihgilodhjfaaPlainNumB
namespace Go.Proofs.Ytkhihgilodhjfaa
open Go.RowKit

theorem u8_ofNat_toNat {v : Nat} (h : v < 256) : (UInt8.ofNat v).toNat = v := UInt8.toNat_ofNat_of_lt' (by simp [UInt8.size]; omega)
theorem endsL_dig (f : Nat) : ∀ (i most Z : Nat) (more : List UInt8), i + (digL f Z).length ≤ most → (0 < i → 0 < Z) → Z < 128 ^ (f + 1) → endsL most i (digL f Z ++ more) = (i + (digL f Z).length, 0) := by
  induction f with
  | zero =>
    intro i most Z more h1 h2 h3
    simp only [digL, List.length_singleton] at h1 ⊢
    simp only [List.singleton_append, endsL]
    rw [if_neg (by omega), u8_ofNat_toNat (by omega), if_pos (by omega), if_neg (by omega)]
  | succ f ih =>
    intro i most Z more h1 h2 h3
    by_cases hz : Z < 128
    · have e : digL (f + 1) Z = [UInt8.ofNat Z] := by conv => lhs; unfold digL
                                                      rw [if_pos hz]
      rw [e] at h1 ⊢
      simp only [List.length_singleton] at h1 ⊢
      simp only [List.singleton_append, endsL]
      rw [if_neg (by omega), u8_ofNat_toNat (by omega), if_pos (by omega), if_neg (by omega)]
    · have e : digL (f + 1) Z = UInt8.ofNat (Z % 128 + 128) :: digL f (Z / 128) := by conv => lhs; unfold digL
                                                                                      rw [if_neg hz]
      rw [e] at h1 ⊢
      simp only [List.length_cons] at h1 ⊢
      have hp : Z / 128 < 128 ^ (f + 1) := by rw [Nat.pow_succ] at h3; omega
      simp only [List.cons_append, endsL]
      rw [if_neg (by omega), u8_ofNat_toNat (by omega), if_neg (by omega), ih (i + 1) most (Z / 128) more (by omega) (by omega) hp]
      congr 1; omega
theorem sevL_dig (f : Nat) : ∀ Z, Z < 128 ^ (f + 1) → sevL (digL f Z) = Z := by
  induction f with
  | zero => intro Z h; simp only [digL, sevL]; rw [u8_ofNat_toNat (by omega)]; omega
  | succ f ih =>
    intro Z h
    by_cases hz : Z < 128
    · rw [digL_lt' hz]; simp only [sevL]; rw [u8_ofNat_toNat (by omega)]; omega
    · have e : digL (f + 1) Z = UInt8.ofNat (Z % 128 + 128) :: digL f (Z / 128) := by conv => lhs; unfold digL
                                                                                      rw [if_neg hz]
      rw [e]
      simp only [sevL]
      rw [u8_ofNat_toNat (by omega), ih _ (by rw [Nat.pow_succ] at h; omega)]
      omega
/-- The bytes that a reader takes are the shortest for their number. -/
theorem dig_sevL (most : Nat) (l : List UInt8) : ∀ (i k f : Nat), endsL most i l = (i + k, 0) → k ≤ f + 1 → digL f (sevL (l.take k)) = l.take k ∧ (0 < i → 0 < sevL (l.take k)) := by
  induction l with
  | nil => intro i k f h hk; simp [endsL] at h; have := h.2; split at this <;> omega
  | cons c l ih =>
    intro i k f h hk
    have hc := c.toNat_lt
    have hle := endsL_le most (c :: l) i (by rw [h])
    rw [h] at hle
    simp only at hle
    unfold endsL at h
    by_cases h1 : most ≤ i
    · simp [h1] at h
    · rw [if_neg h1] at h
      by_cases h2 : c.toNat < 128
      · rw [if_pos h2] at h
        by_cases h3 : 0 < i ∧ c.toNat = 0
        · rw [if_pos h3] at h; simp at h
        · rw [if_neg h3] at h
          have hk1 : k = 1 := by have := congrArg Prod.fst h; simp only at this; omega
          subst hk1
          have e : sevL ((c :: l).take 1) = c.toNat := by simp [sevL]; omega
          rw [e, digL_lt' h2]
          refine ⟨by simp, fun hi => by omega⟩
      · rw [if_neg h2] at h
        obtain ⟨k, rfl⟩ : ∃ j, k = j + 1 := ⟨k - 1, by omega⟩
        have hle2 := endsL_le most l (i + 1) (by rw [h])
        rw [h] at hle2
        simp only at hle2
        obtain ⟨f, rfl⟩ : ∃ j, f = j + 1 := ⟨f - 1, by omega⟩
        have h4 := ih (i + 1) k f (by rw [h]; congr 1; omega) (by omega)
        have h5 := h4.2 (by omega)
        have e : sevL ((c :: l).take (k + 1)) = c.toNat % 128 + 128 * sevL (l.take k) := by simp [sevL]
        rw [e]
        refine ⟨?_, fun _ => by omega⟩
        have e2 : ∀ Z, ¬ Z < 128 → digL (f + 1) Z = UInt8.ofNat (Z % 128 + 128) :: digL f (Z / 128) := fun Z hZ => by
          conv => lhs; unfold digL
          rw [if_neg hZ]
        rw [e2 _ (by omega), List.take_succ_cons, show (c.toNat % 128 + 128 * sevL (l.take k)) / 128 = sevL (l.take k) from by omega, h4.1]
        congr 1
        rw [show (c.toNat % 128 + 128 * sevL (l.take k)) % 128 + 128 = c.toNat from by omega]
        simp
theorem digL_ten (Z : Nat) (h : Z < 18446744073709551616) (more : List UInt8) : (digL 9 Z).length ≠ 10 ∨ byteAt (digL 9 Z ++ more) 9 ≤ 1 := by
  by_cases hl : (digL 9 Z).length = 10
  · refine .inr ?_
    have e := digL_tab 9 Z (by omega)
    rw [hl] at e
    have e2 : byteAt (digL 9 Z ++ more) 9 = byteAt (digL 9 Z) 9 := by
      unfold byteAt; rw [List.getD_eq_getElem?_getD, List.getD_eq_getElem?_getD, List.getElem?_append_left (by omega)]
    rw [e2, e, tabB_at _ (by omega) (by simp; omega)]
    simp; omega
  · exact .inl hl
theorem digL_nine (Z : Nat) (h : Z < 9223372036854775808) : (digL 9 Z).length ≤ 9 := by
  have h1 := (digL_pos 9 Z (by omega)).2
  have h2 := (digL_len 9 Z).1
  by_cases hl : (digL 9 Z).length = 10
  · rw [hl] at h1; omega
  · omega
end Go.Proofs.Ytkhihgilodhjfaa
