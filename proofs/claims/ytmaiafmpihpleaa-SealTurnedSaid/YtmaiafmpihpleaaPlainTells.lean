/- Two texts that differ within four bytes side by side alone have unlike sums: the plain law. -/
import Derived.Test.YtmaiafmpihpleaaMem
import Derived.Test.YtmaiafmpihpleaaPlainCrc
import Derived.Test.YtmaiafmpihpleaaPlainNum
import Derived.Test.YtmaiafmpihpleaaPlainSeal
namespace Go.Proofs.Ytmaiafmpihpleaa
open Go.RowKit

/-- The text with k of its bytes, from p on, turned by b. -/
def turned (l : List UInt8) (p : Nat) (b : Nat → UInt8) : Nat → List UInt8
  | 0 => l
  | k + 1 => (turned l p b k).set (p + k) (l.getD (p + k) 0 ^^^ b k)

theorem turned_len (l : List UInt8) (p : Nat) (b : Nat → UInt8) (k : Nat) : (turned l p b k).length = l.length := by
  induction k with
  | zero => rfl
  | succ k ih => simp [turned, ih]
theorem turned_far (l : List UInt8) (p : Nat) (b : Nat → UInt8) (k i : Nat) (h : p + k ≤ i) : (turned l p b k).getD i 0 = l.getD i 0 := by
  induction k with
  | zero => rfl
  | succ k ih =>
    rw [← ih (by omega)]
    simp only [turned, List.getD_eq_getElem?_getD]
    rw [List.getElem?_set_ne (by omega)]

theorem step_inj {c d b : Nat} (hc : c < 4294967296) (hd : d < 4294967296) (h : crcStep c b = crcStep d b) : c = d := by
  have h1 := crcStep_xor c d b b
  rw [h, Nat.xor_self, Nat.xor_self] at h1
  have h2 : crcStep (c ^^^ d) 0 = crcBits 8 (c ^^^ d) := by unfold crcStep; rw [Nat.xor_zero]
  rw [h2] at h1
  have h3 := crcBits_zero 8 (u32_lt_xor hc hd) h1
  have h4 : c ^^^ d ^^^ d = d := by rw [h3, Nat.zero_xor]
  rwa [Nat.xor_assoc, Nat.xor_self, Nat.xor_zero] at h4
theorem fold_inj (l : List UInt8) : ∀ {c d : Nat}, c < 4294967296 → d < 4294967296 → crcFold c l = crcFold d l → c = d := by
  induction l with
  | nil => intro c d _ _ h; exact h
  | cons x l ih => intro c d hc hd h; exact step_inj hc hd (ih (crcStep_lt hc x.toNat_lt) (crcStep_lt hd x.toNat_lt) h)

theorem four_zero {x0 x1 x2 x3 : Nat} (h0 : x0 < 256) (h1 : x1 < 256) (h2 : x2 < 256) (h3 : x3 < 256) (h : crcStep (crcStep (crcStep (crcStep 0 x0) x1) x2) x3 = 0) : x0 = 0 ∧ x1 = 0 ∧ x2 = 0 ∧ x3 = 0 := by
  rw [four] at h
  have hlt : x0 ^^^ x1 * 2 ^ 8 ^^^ x2 * 2 ^ 16 ^^^ x3 * 2 ^ 24 < 4294967296 := u32_lt_xor (u32_lt_xor (u32_lt_xor (by omega) (by omega)) (by omega)) (by omega)
  have hz := crcBits_zero 32 hlt h
  have e : ∀ a b k, a < 2 ^ k → a ^^^ b * 2 ^ k = a + b * 2 ^ k := fun a b k ha => by
    have := Nat.two_pow_add_eq_or_of_lt (i := k) ha b
    rw [Nat.mul_comm b, Nat.add_comm, this]
    apply Nat.eq_of_testBit_eq
    intro i
    rw [Nat.testBit_xor, Nat.testBit_or, Nat.testBit_two_pow_mul]
    rcases Nat.lt_or_ge i k with hi | hi
    · simp [Nat.not_le.2 hi]
    · have : a.testBit i = false := Nat.testBit_lt_two_pow (Nat.lt_of_lt_of_le ha (Nat.pow_le_pow_right (by omega) hi))
      simp [this]
  rw [e x0 x1 8 (by omega), e (x0 + x1 * 2 ^ 8) x2 16 (by omega), e (x0 + x1 * 2 ^ 8 + x2 * 2 ^ 16) x3 24 (by omega)] at hz
  omega

theorem tells (pre post : List UInt8) (y0 y1 y2 y3 z0 z1 z2 z3 : UInt8) (h : crcSum [pre ++ [y0, y1, y2, y3] ++ post] = crcSum [pre ++ [z0, z1, z2, z3] ++ post]) : y0 = z0 ∧ y1 = z1 ∧ y2 = z2 ∧ y3 = z3 := by
  have hlt := crcFold_lt pre (c := 4294967295) (by omega)
  simp only [crcSum_one, crcFold_append] at h
  generalize hs : crcFold 4294967295 pre = s at h hlt
  have l1 : ∀ a b c d : UInt8, crcFold s [a, b, c, d] < 4294967296 := fun a b c d => crcFold_lt _ hlt
  have h1 : crcFold (crcFold s [y0, y1, y2, y3]) post = crcFold (crcFold s [z0, z1, z2, z3]) post := by
    have := congrArg (4294967295 ^^^ ·) h
    simpa only [← Nat.xor_assoc, Nat.xor_self, Nat.zero_xor] using this
  have h2 := fold_inj post (l1 _ _ _ _) (l1 _ _ _ _) h1
  have h3 : crcStep (crcStep (crcStep (crcStep 0 (y0.toNat ^^^ z0.toNat)) (y1.toNat ^^^ z1.toNat)) (y2.toNat ^^^ z2.toNat)) (y3.toNat ^^^ z3.toNat) = 0 := by
    have e0 : (0 : Nat) = s ^^^ s := (Nat.xor_self s).symm
    rw [e0, crcStep_xor, crcStep_xor, crcStep_xor, crcStep_xor]
    have h2' : crcStep (crcStep (crcStep (crcStep s y0.toNat) y1.toNat) y2.toNat) y3.toNat = crcStep (crcStep (crcStep (crcStep s z0.toNat) z1.toNat) z2.toNat) z3.toNat := h2
    rw [h2', Nat.xor_self, Nat.xor_self]
  have lx : ∀ a b : UInt8, a.toNat ^^^ b.toNat < 256 := fun a b => Nat.xor_lt_two_pow (n := 8) a.toNat_lt b.toNat_lt
  have ez : ∀ a b : UInt8, a.toNat ^^^ b.toNat = 0 → a = b := fun a b hab => by
    apply UInt8.toNat_inj.1
    have h4 : a.toNat ^^^ b.toNat ^^^ b.toNat = b.toNat := by rw [hab, Nat.zero_xor]
    rwa [Nat.xor_assoc, Nat.xor_self, Nat.xor_zero] at h4
  obtain ⟨a0, a1, a2, a3⟩ := four_zero (lx _ _) (lx _ _) (lx _ _) (lx _ _) h3
  exact ⟨ez _ _ a0, ez _ _ a1, ez _ _ a2, ez _ _ a3⟩

theorem turned_split (l : List UInt8) (p : Nat) (b : Nat → UInt8) (h : p + 4 ≤ l.length) :
    ∃ pre post y0 y1 y2 y3, l = pre ++ [y0, y1, y2, y3] ++ post ∧ turned l p b 4 = pre ++ [y0 ^^^ b 0, y1 ^^^ b 1, y2 ^^^ b 2, y3 ^^^ b 3] ++ post := by
  have e : l = l.take p ++ [l.getD p 0, l.getD (p + 1) 0, l.getD (p + 2) 0, l.getD (p + 3) 0] ++ l.drop (p + 4) := by
    have d : ∀ k, k < l.length → l.drop k = l.getD k 0 :: l.drop (k + 1) := fun k hk => by rw [List.drop_eq_getElem_cons hk, List.getD_eq_getElem?_getD]; simp [hk]
    conv => lhs; rw [← List.take_append_drop p l, d p (by omega), d (p + 1) (by omega), d (p + 2) (by omega), d (p + 3) (by omega)]
    simp
  refine ⟨_, _, _, _, _, _, e, ?_⟩
  apply List.ext_getElem?
  intro i
  have hlp : (l.take p).length = p := by rw [List.length_take]; omega
  simp only [turned, Nat.add_zero]
  rcases (by omega : i < p ∨ i = p ∨ i = p + 1 ∨ i = p + 2 ∨ i = p + 3 ∨ p + 4 ≤ i) with hi | rfl | rfl | rfl | rfl | hi
  · rw [List.getElem?_set_ne (by omega), List.getElem?_set_ne (by omega), List.getElem?_set_ne (by omega), List.getElem?_set_ne (by omega), List.append_assoc, List.getElem?_append_left (by omega)]
    simp [hi]
  · rw [List.getElem?_set_ne (by omega), List.getElem?_set_ne (by omega), List.getElem?_set_ne (by omega), List.append_assoc, List.getElem?_append_right (by omega), hlp]
    rw [List.getElem?_set_self (by omega)]; simp
  · rw [List.getElem?_set_ne (by omega), List.getElem?_set_ne (by omega), List.append_assoc, List.getElem?_append_right (by omega), hlp]
    rw [List.getElem?_set_self (by simp; omega)]
    rw [show p + 1 - p = 1 from by omega]; simp
  · rw [List.getElem?_set_ne (by omega), List.append_assoc, List.getElem?_append_right (by omega), hlp]
    rw [List.getElem?_set_self (by simp; omega)]
    rw [show p + 2 - p = 2 from by omega]; simp
  · rw [List.append_assoc, List.getElem?_append_right (by omega), hlp]
    rw [List.getElem?_set_self (by simp; omega)]
    rw [show p + 3 - p = 3 from by omega]; simp
  · rw [List.getElem?_set_ne (by omega), List.getElem?_set_ne (by omega), List.getElem?_set_ne (by omega), List.getElem?_set_ne (by omega), List.getElem?_append_right (by simp; omega)]
    rw [List.getElem?_drop]
    congr 1
    simp; omega

theorem turned_told (l : List UInt8) (p : Nat) (b : Nat → UInt8) (h : p + 4 ≤ l.length) : decide (crcSum [l] = crcSum [turned l p b 4]) = decide (l = turned l p b 4) := by
  rw [decide_eq_decide]
  constructor
  · obtain ⟨pre, post, y0, y1, y2, y3, e1, e2⟩ := turned_split l p b h
    rw [e2]
    intro hs
    rw [e1] at hs
    obtain ⟨a0, a1, a2, a3⟩ := tells _ _ _ _ _ _ _ _ _ _ hs
    rw [e1, ← a0, ← a1, ← a2, ← a3]
  · intro hl
    rw [← hl]

theorem set_app {α : Type} (a c : List α) (i : Nat) (x : α) (h : i < a.length) : (a ++ c).set i x = a.set i x ++ c := by
  rw [List.set_append]; simp [h]
theorem turned_app (a c : List UInt8) (p : Nat) (b : Nat → UInt8) (k : Nat) (h : p + k ≤ a.length) : turned (a ++ c) p b k = turned a p b k ++ c := by
  induction k with
  | zero => rfl
  | succ k ih =>
    have e : (a ++ c).getD (p + k) 0 = a.getD (p + k) 0 := by
      rw [List.getD_eq_getElem?_getD, List.getD_eq_getElem?_getD, List.getElem?_append_left (by omega)]
    simp only [turned]
    rw [ih (by omega), e, set_app _ _ _ _ (by rw [turned_len]; omega)]
theorem le4_inj {s t : Nat} (hs : s < 4294967296) (ht : t < 4294967296) (h : le4 s = le4 t) : s = t := by
  have e : getL (le4 s) = getL (le4 t) := by rw [h]
  unfold le4 at e
  rw [getL_tab, getL_tab] at e
  omega
end Go.Proofs.Ytmaiafmpihpleaa
