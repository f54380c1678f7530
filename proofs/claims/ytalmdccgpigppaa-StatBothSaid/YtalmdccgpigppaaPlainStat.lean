/- Plain: tallies of events. No program in sight. -/
import Derived.Test.YtalmdccgpigppaaPlainA
namespace Go.Proofs.Ytalmdccgpigppaa
open Go.RowKit

def bothT (X Y : Nat → Int) (j : Nat) : Int := if j = 7 then max (X 7) (Y 7) else wrap64 (X j + Y j)
def oneT (k e n : Int) : Nat → Int
  | 0 => 1
  | 1 => if k = 1 ∧ e = 0 then 1 else 0
  | 2 => if k = 2 then n else 0
  | 3 => if k = 3 ∧ e = 0 then 1 else 0
  | 4 => if k = 5 then 1 else 0
  | 5 => if k = 5 ∧ e = 0 then 1 else 0
  | 6 => if k = 5 ∧ e = 0 then n else 0
  | 7 => if k = 5 ∧ e = 0 then n else 0
  | 8 => if e = 41 ∨ e = 52 ∨ e = 2 then 1 else 0
  | 9 => if e = 50 ∨ e = 1 then 1 else 0
  | _ => 0
def moreT (T : Nat → Int) (k e n : Int) (j : Nat) : Int := if j = 7 ∧ ¬ (k = 5 ∧ e = 0) then T 7 else oneT k e n j
def addT (T : Nat → Int) (k e n : Int) : Nat → Int := bothT T (moreT T k e n)
def ofN (K E N : Nat → Int) : Nat → Nat → Int
  | 0 => fun _ => 0
  | k + 1 => addT (ofN K E N k) (K k) (E k) (N k)

theorem wrap64_in {x : Int} (h : -9223372036854775808 ≤ x ∧ x ≤ 9223372036854775807) : wrap64 x = x := by unfold wrap64; omega
theorem wrap64_rng (x : Int) : -9223372036854775808 ≤ wrap64 x ∧ wrap64 x ≤ 9223372036854775807 := by unfold wrap64; omega
theorem wrap64_assoc (a b c : Int) : wrap64 (a + wrap64 (b + c)) = wrap64 (wrap64 (a + b) + c) := by unfold wrap64; omega
theorem moreT7 (T : Nat → Int) (k e n : Int) : moreT T k e n 7 = if k = 5 ∧ e = 0 then n else T 7 := by
  unfold moreT oneT; split <;> simp_all
theorem moreT_ne {T : Nat → Int} {k e n : Int} {j : Nat} (h : j ≠ 7) : moreT T k e n j = oneT k e n j := by unfold moreT; rw [if_neg (by omega)]
theorem both_add (A B : Nat → Int) (k e n : Int) (j : Nat) : bothT A (addT B k e n) j = addT (bothT A B) k e n j := by
  by_cases hj : j = 7
  · subst hj
    unfold addT
    show (if 7 = 7 then max (A 7) (bothT B (moreT B k e n) 7) else _) = (if 7 = 7 then max (bothT A B 7) (moreT (bothT A B) k e n 7) else _)
    rw [if_pos rfl, if_pos rfl, moreT7]
    show max (A 7) (max (B 7) (moreT B k e n 7)) = max (max (A 7) (B 7)) (if _ then n else max (A 7) (B 7))
    rw [moreT7]
    by_cases hc : k = 5 ∧ e = 0
    · rw [if_pos hc, if_pos hc]; omega
    · rw [if_neg hc, if_neg hc]; omega
  · unfold addT
    have e1 : ∀ X Y : Nat → Int, bothT X Y j = wrap64 (X j + Y j) := fun X Y => by unfold bothT; rw [if_neg hj]
    rw [e1, e1, e1, e1, moreT_ne hj, moreT_ne hj]
    exact wrap64_assoc _ _ _
theorem ofN_rng (K E N : Nat → Int) (hN : ∀ i, N i ≤ 9223372036854775807) : ∀ k j, -9223372036854775808 ≤ ofN K E N k j ∧ ofN K E N k j ≤ 9223372036854775807 ∧ 0 ≤ ofN K E N k 7 := by
  intro k
  induction k with
  | zero => intro j; simp [ofN]
  | succ k ih =>
    intro j
    have h7 : 0 ≤ ofN K E N (k + 1) 7 ∧ ofN K E N (k + 1) 7 ≤ 9223372036854775807 := by
      show 0 ≤ max (ofN K E N k 7) (moreT _ _ _ _ 7) ∧ max (ofN K E N k 7) (moreT _ _ _ _ 7) ≤ _
      rw [moreT7]
      have := ih 7
      have := hN k
      split <;> omega
    by_cases hj : j = 7
    · subst hj; omega
    · refine ⟨?_, ?_, h7.1⟩
      all_goals
        show _
        unfold ofN addT bothT
        rw [if_neg hj]
        have := wrap64_rng (ofN K E N k j + moreT (ofN K E N k) (K k) (E k) (N k) j)
        omega
theorem ofN_congr {K E N K' E' N' : Nat → Int} : ∀ k, (∀ i, i < k → K i = K' i ∧ E i = E' i ∧ N i = N' i) → ofN K E N k = ofN K' E' N' k := by
  intro k
  induction k with
  | zero => intro _; rfl
  | succ k ih =>
    intro h
    obtain ⟨h1, h2, h3⟩ := h k (by omega)
    show addT (ofN K E N k) _ _ _ = addT (ofN K' E' N' k) _ _ _
    rw [ih (fun i hi => h i (by omega)), h1, h2, h3]
theorem both_parts (K E N : Nat → Int) (hN : ∀ i, N i ≤ 9223372036854775807) (k : Nat) : ∀ m j, bothT (ofN K E N k) (ofN (fun i => K (k + i)) (fun i => E (k + i)) (fun i => N (k + i)) m) j = ofN K E N (k + m) j := by
  intro m
  induction m with
  | zero =>
    intro j
    have := ofN_rng K E N hN k j
    by_cases hj : j = 7
    · subst hj
      show max (ofN K E N k 7) 0 = _
      rw [Nat.add_zero]; omega
    · show (if j = 7 then _ else wrap64 (ofN K E N k j + 0)) = _
      rw [if_neg hj, Int.add_zero, wrap64_in ⟨this.1, this.2.1⟩, Nat.add_zero]
  | succ m ih =>
    intro j
    show bothT _ (addT _ _ _ _) j = addT (ofN K E N (k + m)) _ _ _ j
    rw [both_add]
    have : bothT (ofN K E N k) (ofN (fun i => K (k + i)) (fun i => E (k + i)) (fun i => N (k + i)) m) = ofN K E N (k + m) := funext ih
    rw [this]; rfl
end Go.Proofs.Ytalmdccgpigppaa
