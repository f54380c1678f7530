/- Plain: what is drawn by lot. No program in sight. -/
import Derived.Test.YtkhihgilodhjfaaPlainNum
import Derived.Test.YtkhihgilodhjfaaPlainA
namespace Go.Proofs.Ytkhihgilodhjfaa
open Go.RowKit

def lotNext (s : UInt64) : UInt64 := 6364136223846793005 * s + 1442695040888963407
/-- A number below n, and the lot's next state. -/
def lotB (s : UInt64) (n : Int) : UInt64 × Int := if n < 1 then (s, 0) else (lotNext s, (((lotNext s).toNat / 8589934592 : Nat) : Int) % n)
theorem lotB_pos (s : UInt64) (n : Int) : 0 ≤ (lotB s n).2 := by
  unfold lotB
  by_cases h : n < 1
  · rw [if_pos h]; exact Int.le_refl _
  · rw [if_neg h]; exact Int.emod_nonneg _ (by omega)
theorem lotB_below (s : UInt64) (n : Int) (h : 1 ≤ n) : (lotB s n).2 < n := by
  unfold lotB; rw [if_neg (by omega)]
  exact Int.emod_lt_of_pos _ (by omega)
def drawT (s : UInt64) (t : Int) : UInt64 × Int := if t = 2 then lotB s 2 else ((lotB s 201).1, (lotB s 201).2 - 100)
theorem drawT_two (s : UInt64) : drawT s 2 = lotB s 2 := if_pos rfl
theorem drawT_rng (s : UInt64) (t : Int) : -100 ≤ (drawT s t).2 ∧ (drawT s t).2 ≤ 100 := by
  unfold drawT
  by_cases h : t = 2
  · rw [if_pos h]
    have h1 := lotB_pos s 2
    have h2 := lotB_below s 2 (by decide)
    generalize (lotB s 2).2 = x at *
    omega
  · rw [if_neg h]
    have h1 := lotB_pos s 201
    have h2 := lotB_below s 201 (by decide)
    show -100 ≤ (lotB s 201).2 - 100 ∧ (lotB s 201).2 - 100 ≤ 100
    generalize (lotB s 201).2 = x at *
    omega
def rowStep (p : UInt64 × List Int) (t : Int) : UInt64 × List Int := ((drawT p.1 t).1, p.2 ++ [(drawT p.1 t).2])
def rowD (ts : List Int) (s : UInt64) : UInt64 × List Int := ts.foldl rowStep (s, [])
theorem rowD_take {ts : List Int} {k : Nat} (s : UInt64) (h : k < ts.length) : rowD (ts.take (k + 1)) s = rowStep (rowD (ts.take k) s) (ts.getD k 0) := by
  unfold rowD
  rw [List.take_succ_eq_append_getElem h, List.foldl_append, List.getD_eq_getElem?_getD, List.getElem?_eq_getElem h]; rfl
theorem rowD_snoc (ts : List Int) (t : Int) (s : UInt64) : rowD (ts ++ [t]) s = rowStep (rowD ts s) t := by unfold rowD; rw [List.foldl_append]; rfl
theorem rowD_all (s : UInt64) : ∀ n (ts : List Int), ts.length = n → (rowD ts s).2.length = ts.length ∧ ∀ i, i < ts.length → ts.getD i 0 = 2 → (rowD ts s).2.getD i 0 = 0 ∨ (rowD ts s).2.getD i 0 = 1 := by
  intro n
  induction n with
  | zero =>
    intro ts hl
    obtain rfl := List.eq_nil_of_length_eq_zero hl
    exact ⟨rfl, fun i hi => absurd hi (by simp)⟩
  | succ n ih =>
    intro ts hl
    rcases List.eq_nil_or_concat ts with rfl | ⟨ts', t, rfl⟩
    · simp at hl
    · rw [List.concat_eq_append] at *
      have hl' : ts'.length = n := by simpa using hl
      obtain ⟨h2, h3⟩ := ih ts' hl'
      rw [rowD_snoc]
      refine ⟨by simp [rowStep, h2], fun i hi h9 => ?_⟩
      show ((rowD ts' s).2 ++ [(drawT (rowD ts' s).1 t).2]).getD i 0 = 0 ∨ ((rowD ts' s).2 ++ [(drawT (rowD ts' s).1 t).2]).getD i 0 = 1
      rcases Nat.lt_or_ge i ts'.length with hlt | hge
      · have e1 : (ts' ++ [t]).getD i 0 = ts'.getD i 0 := by simp [List.getD_eq_getElem?_getD, List.getElem?_append_left hlt]
        have e2 : ((rowD ts' s).2 ++ [(drawT (rowD ts' s).1 t).2]).getD i 0 = (rowD ts' s).2.getD i 0 := by simp [List.getD_eq_getElem?_getD, List.getElem?_append_left (show i < (rowD ts' s).2.length from by omega)]
        rw [e1] at h9
        rw [e2]
        exact h3 i hlt h9
      · have hi' : i = ts'.length := by simp at hi; omega
        have e1 : (ts' ++ [t]).getD i 0 = t := by subst hi'; simp
        have e2 : ((rowD ts' s).2 ++ [(drawT (rowD ts' s).1 t).2]).getD i 0 = (drawT (rowD ts' s).1 t).2 := by rw [hi', ← h2]; simp
        rw [e1] at h9
        rw [e2, h9]
        rw [drawT_two]
        have h5 := lotB_pos (rowD ts' s).1 2
        have h6 := lotB_below (rowD ts' s).1 2 (by decide)
        generalize (lotB (rowD ts' s).1 2).2 = x at *
        omega
def chStep (p : UInt64 × List UInt8) : UInt64 × List UInt8 := ((lotB p.1 256).1, p.2 ++ [UInt8.ofNat (lotB p.1 256).2.toNat])
def chD (s : UInt64) : Nat → UInt64 × List UInt8
  | 0 => (s, [])
  | k + 1 => chStep (chD s k)
theorem chD_len (s : UInt64) : ∀ n, (chD s n).2.length = n := by
  intro n
  induction n with
  | zero => rfl
  | succ n ih => show ((chD s n).2 ++ _).length = _; simp [ih]
/-- An event. -/
structure EvD where
  kind : Int
  num : Int
  row : List Int
  ch : List UInt8
/-- The same for any way to draw (a variable is shut to the kernel). -/
def evG (L : UInt64 → Int → UInt64 × Int) (C : UInt64 → Nat → UInt64 × List UInt8) (R : List Int → UInt64 → UInt64 × List Int) (ts : List Int) (s : UInt64) : UInt64 × EvD :=
  if (L s 20).2 ≤ 8 then ((R ts (L s 20).1).1, ⟨1, 0, (R ts (L s 20).1).2, []⟩)
  else if (L s 20).2 ≤ 14 then ((L (L s 20).1 6).1, ⟨2, (L (L s 20).1 6).2, [], []⟩)
  else if (L s 20).2 = 15 then ((L s 20).1, ⟨3, 0, [], []⟩)
  else if (L s 20).2 = 16 then ((L (L s 20).1 12).1, ⟨4, (L (L s 20).1 12).2, [], []⟩)
  else ((C (L (L (L s 20).1 8).1 5).1 (L (L (L s 20).1 8).1 5).2.toNat).1, ⟨5, (L (L s 20).1 8).2 - 1, [], (C (L (L (L s 20).1 8).1 5).1 (L (L (L s 20).1 8).1 5).2.toNat).2⟩)
def evD (ts : List Int) (s : UInt64) : UInt64 × EvD := evG lotB chD rowD ts s
def evsD (ts : List Int) (s : UInt64) : Nat → UInt64 × List EvD
  | 0 => (s, [])
  | k + 1 => ((evD ts (evsD ts s k).1).1, (evsD ts s k).2 ++ [(evD ts (evsD ts s k).1).2])
theorem evsD_len (ts : List Int) (s : UInt64) : ∀ k, (evsD ts s k).2.length = k := by
  intro k
  induction k with
  | zero => rfl
  | succ k ih => show ((evsD ts s k).2 ++ _).length = _; simp [ih]
theorem evsD_take (ts : List Int) (s : UInt64) (n : Nat) : ∀ m, n ≤ m → (evsD ts s m).2.take n = (evsD ts s n).2 := by
  have hl := evsD_len ts s
  intro m
  induction m with
  | zero => intro h; obtain rfl : n = 0 := by omega
            rfl
  | succ m ih =>
    intro h
    rcases Nat.lt_or_ge m n with h1 | h1
    · obtain rfl : n = m + 1 := by omega
      exact List.take_of_length_le (by rw [hl]; omega)
    · show ((evsD ts s m).2 ++ _).take n = _
      rw [List.take_append_of_le_length (by rw [hl]; exact h1), ih h1]
end Go.Proofs.Ytkhihgilodhjfaa
