/- Parts: PlainRow. -/
import Derived.Test.YtalmdccgpigppaaGreatPr34
import Derived.Test.YtalmdccgpigppaaGreatPr35
namespace Go.Proofs.YtalmdccgpigppaaGreat
open Go.RowKit

def allK (n : Nat) (f : Nat → Bool) : Bool := (List.range n).all f
theorem allK_true {n : Nat} {f : Nat → Bool} : allK n f = true ↔ ∀ i, i < n → f i = true := by simp [allK, List.all_eq_true]
theorem allK_false {n k : Nat} {f : Nat → Bool} (hk : k < n) (h : f k = false) : allK n f = false := by
  rw [Bool.eq_false_iff]; intro hc; rw [allK_true.1 hc k hk] at h; cases h
def tyB (t : Int) : Bool := t == 1 || t == 2
theorem tyB_true {t : Int} : tyB t = true ↔ t = 1 ∨ t = 2 := by simp [tyB]
def rightB (l : List Int) : Bool := allK l.length (fun i => tyB (intAt l i)) && (decide (1 ≤ l.length) && decide (l.length ≤ 8))
theorem rightB_true {l : List Int} : rightB l = true ↔ (∀ i, i < l.length → intAt l i = 1 ∨ intAt l i = 2) ∧ 1 ≤ l.length ∧ l.length ≤ 8 := by
  unfold rightB; simp only [Bool.and_eq_true, allK_true, decide_eq_true_eq, tyB_true]
def okAt (t v : Int) : Bool := !(t == 2) || (v == 0 || v == 1)
theorem okAt_true {t v : Int} : okAt t v = true ↔ (t = 2 → v = 0 ∨ v = 1) := by
  unfold okAt
  by_cases h : t = 2
  · subst h; simp
  · simp [h]
theorem okAt_false {t v : Int} : okAt t v = false ↔ (t = 2 ∧ v ≠ 0 ∧ v ≠ 1) := by
  unfold okAt
  by_cases h : t = 2
  · subst h; simp
  · simp [h]
def fitsB (ts l : List Int) : Bool := rightB ts && (decide (l.length = ts.length) && allK ts.length (fun i => okAt (intAt ts i) (intAt l i)))
theorem fitsB_true {ts l : List Int} : fitsB ts l = true ↔ rightB ts = true ∧ l.length = ts.length ∧ ∀ i, i < ts.length → (intAt ts i = 2 → intAt l i = 0 ∨ intAt l i = 1) := by
  unfold fitsB; simp only [Bool.and_eq_true, allK_true, decide_eq_true_eq, okAt_true]
def piece (t v : Int) : List UInt8 := if t = 2 then [UInt8.ofNat v.toNat] else digL 9 (zz v)
theorem piece_len (t v : Int) : (piece t v).length ≤ if t = 2 then 1 else 10 := by
  unfold piece
  split
  · simp
  · exact (digL_len 9 _).1
def rowB (ts l : List Int) : Nat → List UInt8
  | 0 => []
  | k + 1 => rowB ts l k ++ piece (intAt ts k) (intAt l k)
theorem rowB_len10 (ts l : List Int) (k : Nat) : (rowB ts l k).length ≤ 10 * k := by
  induction k with
  | zero => simp [rowB]
  | succ k ih =>
    have h2 := piece_len (intAt ts k) (intAt l k)
    unfold rowB
    rw [List.length_append]
    split at h2 <;> omega
theorem rowB_split (ts l : List Int) (k n : Nat) (h : k ≤ n) : ∃ more, rowB ts l n = rowB ts l k ++ more := by
  induction n with
  | zero => exact ⟨[], by rw [show k = 0 from by omega]; simp⟩
  | succ n ih =>
    by_cases hk : k = n + 1
    · exact ⟨[], by rw [hk]; simp⟩
    · obtain ⟨more, hm⟩ := ih (by omega)
      exact ⟨more ++ piece (intAt ts n) (intAt l n), by rw [show rowB ts l (n + 1) = rowB ts l n ++ piece (intAt ts n) (intAt l n) from rfl, hm, List.append_assoc]⟩
theorem rowB_congr (ts : List Int) {l m : List Int} {k : Nat} (h : ∀ i, i < k → intAt l i = intAt m i) : rowB ts l k = rowB ts m k := by
  induction k with
  | zero => rfl
  | succ k ih => unfold rowB; rw [ih (fun i hi => h i (by omega)), h k (by omega)]

/-- What Zag says of a number's turned bytes and more. -/
theorem zag_dig {n : Int} (h0 : -9223372036854775808 ≤ n) (h1 : n ≤ 9223372036854775807) (more : List UInt8) :
    zagE (digL 9 (zz n) ++ more) = 0 ∧ zagS (digL 9 (zz n) ++ more) = (digL 9 (zz n)).length ∧ zagV (digL 9 (zz n) ++ more) = n := by
  have hz := zz_lt h0 h1
  have he : endsL 10 0 (digL 9 (zz n) ++ more) = ((digL 9 (zz n)).length, 0) := by
    rw [endsL_dig 9 0 10 _ _ (by have := (digL_len 9 (zz n)).1; omega) (by omega) (by omega), Nat.zero_add]
  have hE : zagE (digL 9 (zz n) ++ more) = 0 := by
    unfold zagE
    rw [he]
    have := digL_ten _ hz more
    simp only [ne_eq, not_true_eq_false, if_false]
    rw [if_neg (by omega)]
  refine ⟨hE, ?_, ?_⟩
  · unfold zagS; rw [if_pos hE, he]
  · unfold zagV; rw [if_pos hE, he]
    show unzz (sevL (List.take _ _)) = n
    rw [List.take_left, sevL_dig 9 _ (by omega), unzz_zz]
theorem zag_of {l : List UInt8} (h : zagE l = 0) : (endsL 10 0 l).2 = 0 ∧ ((endsL 10 0 l).1 ≠ 10 ∨ byteAt l 9 ≤ 1) := by
  unfold zagE at h
  by_cases h1 : (endsL 10 0 l).2 = 0
  · refine ⟨h1, ?_⟩
    rw [if_neg (by omega)] at h
    by_cases h2 : (endsL 10 0 l).1 = 10 ∧ 1 < byteAt l 9
    · rw [if_pos h2] at h; omega
    · omega
  · rw [if_pos h1] at h; omega
theorem zagS_le (l : List UInt8) : zagS l ≤ l.length := by
  unfold zagS
  split
  · rename_i h
    have := (endsL_le 10 l 0 (zag_of h).1).2.2
    omega
  · omega
/-- What is read of bytes has just these bytes. -/
theorem zag_ed {l : List UInt8} (h : zagE l = 0) : digL 9 (zz (zagV l)) = l.take (zagS l) ∧ -9223372036854775808 ≤ zagV l ∧ zagV l ≤ 9223372036854775807 := by
  obtain ⟨h1, h2⟩ := zag_of h
  have hz : endsL 10 0 l = ((endsL 10 0 l).1, 0) := Prod.ext rfl h1
  have hle := endsL_le 10 l 0 h1
  have hS := zag_lt rfl hz h2
  have hbd := unzz_bd hS
  have e1 : zagV l = unzz (sevL (l.take (endsL 10 0 l).1)) := by unfold zagV; rw [if_pos h]
  have e2 : zagS l = (endsL 10 0 l).1 := by unfold zagS; rw [if_pos h]
  refine ⟨?_, by rw [e1]; exact hbd.1, by rw [e1]; exact hbd.2⟩
  rw [e1, e2, zz_unzz, (dig_sevL 10 l 0 (endsL 10 0 l).1 9 (by rw [hz]; simp) (by omega)).1]
theorem zagE_cases (l : List UInt8) : zagE l = 0 ∨ zagE l = 10 ∨ zagE l = 11 := by
  unfold zagE
  by_cases h : (endsL 10 0 l).2 = 0
  · rw [if_neg (by omega)]; split <;> omega
  · rw [if_pos h]; right; exact (endsL_err 10 l 0 h).2

/-- A row that is read: values, how many bytes, and what went wrong. -/
def rdStep (b : List UInt8) (t : Int) (s : List Int × Nat × Nat) : List Int × Nat × Nat :=
  if s.2.2 ≠ 0 then s
  else if t = 1 then
    if zagE (b.drop s.2.1) ≠ 0 then (s.1, s.2.1, zagE (b.drop s.2.1)) else (s.1 ++ [zagV (b.drop s.2.1)], s.2.1 + zagS (b.drop s.2.1), 0)
  else if b.length ≤ s.2.1 then (s.1, s.2.1, 10)
  else if 1 < byteAt b s.2.1 then (s.1, s.2.1, 11)
  else (s.1 ++ [(byteAt b s.2.1 : Int)], s.2.1 + 1, 0)
def rowK (ts : List Int) (b : List UInt8) : Nat → List Int × Nat × Nat
  | 0 => ([], 0, 0)
  | k + 1 => rdStep b (intAt ts k) (rowK ts b k)
def readR (ts : List Int) (b : List UInt8) : List Int × Nat :=
  if rightB ts = false then ([], 2)
  else if (rowK ts b ts.length).2.2 ≠ 0 then ([], (rowK ts b ts.length).2.2)
  else if (rowK ts b ts.length).2.1 < b.length then ([], 12)
  else ((rowK ts b ts.length).1, 0)
theorem rdStep_bad {b : List UInt8} {t : Int} {s : List Int × Nat × Nat} (h : s.2.2 ≠ 0) : rdStep b t s = s := by unfold rdStep; rw [if_pos h]
theorem rdStep_int {b : List UInt8} {l : List Int} {i : Nat} (h : zagE (b.drop i) = 0) : rdStep b 1 (l, i, 0) = (l ++ [zagV (b.drop i)], i + zagS (b.drop i), 0) := by simp [rdStep, h]
theorem rdStep_intE {b : List UInt8} {l : List Int} {i : Nat} (h : zagE (b.drop i) ≠ 0) : rdStep b 1 (l, i, 0) = (l, i, zagE (b.drop i)) := by simp [rdStep, h]
theorem rdStep_end {b : List UInt8} {l : List Int} {i : Nat} {t : Int} (ht : t ≠ 1) (h : b.length ≤ i) : rdStep b t (l, i, 0) = (l, i, 10) := by simp [rdStep, ht, h]
theorem rdStep_form {b : List UInt8} {l : List Int} {i : Nat} {t : Int} (ht : t ≠ 1) (h : i < b.length) (h2 : 1 < byteAt b i) : rdStep b t (l, i, 0) = (l, i, 11) := by simp [rdStep, ht, h2, Nat.not_le.2 h]
theorem rdStep_bool {b : List UInt8} {l : List Int} {i : Nat} {t : Int} (ht : t ≠ 1) (h : i < b.length) (h2 : byteAt b i ≤ 1) : rdStep b t (l, i, 0) = (l ++ [(byteAt b i : Int)], i + 1, 0) := by
  simp [rdStep, ht, Nat.not_le.2 h, Nat.not_lt.2 h2]
theorem rdK_bad {ts : List Int} {b : List UInt8} {k n : Nat} (hk : k ≤ n) (h : (rowK ts b k).2.2 ≠ 0) : rowK ts b n = rowK ts b k := by
  induction n with
  | zero => rw [show k = 0 from by omega]
  | succ n ih =>
    by_cases e : k = n + 1
    · rw [e]
    · have := ih (by omega)
      show rdStep b _ (rowK ts b n) = _
      rw [this, rdStep_bad h]
theorem rdK_inv (ts : List Int) (b : List UInt8) (k : Nat) : (rowK ts b k).2.1 ≤ b.length ∧ (rowK ts b k).1.length ≤ k ∧ (rowK ts b k).2.2 ≤ 11 ∧ ((rowK ts b k).2.2 = 0 →
    (rowK ts b k).1.length = k ∧ (∀ i, i < k → intAt ts i = 1 ∨ intAt ts i = 2) →
      rowB ts (rowK ts b k).1 k = b.take (rowK ts b k).2.1 ∧ (∀ i, i < k → intAt ts i = 2 → intAt (rowK ts b k).1 i = 0 ∨ intAt (rowK ts b k).1 i = 1) ∧
      (∀ i, i < k → -9223372036854775808 ≤ intAt (rowK ts b k).1 i ∧ intAt (rowK ts b k).1 i ≤ 9223372036854775807)) ∧ ((rowK ts b k).2.2 = 0 → (rowK ts b k).1.length = k) := by
  induction k with
  | zero => simp [rowK, rowB]
  | succ k ih =>
    rw [show rowK ts b (k + 1) = rdStep b (intAt ts k) (rowK ts b k) from rfl]
    generalize rowK ts b k = s at *
    obtain ⟨l, i, e⟩ := s
    obtain ⟨i1, i2, i3, i4, i5⟩ := ih
    simp only at i1 i2 i3 i4 i5
    by_cases he : e = 0
    · subst he
      have hl := i5 rfl
      have hat : ∀ (v : Int) (j : Nat), j < k → intAt (l ++ [v]) j = intAt l j := fun v j hj => by
        unfold intAt; rw [List.getD_eq_getElem?_getD, List.getElem?_append_left (by omega), List.getD_eq_getElem?_getD]
      have hat2 : ∀ v : Int, intAt (l ++ [v]) k = v := fun v => by
        unfold intAt; rw [List.getD_eq_getElem?_getD, List.getElem?_append_right (by omega)]; simp [hl]
      by_cases ht : intAt ts k = 1
      · rw [ht]
        by_cases hz : zagE (b.drop i) = 0
        · rw [rdStep_int hz]
          obtain ⟨z1, z2, z3⟩ := zag_ed hz
          have hzs := zagS_le (b.drop i)
          rw [List.length_drop] at hzs
          generalize zagV (b.drop i) = v at *
          generalize zagS (b.drop i) = sz at *
          refine ⟨by simp only; omega, by simp [hl], by simp, fun _ hh => ?_, fun _ => by simp [hl]⟩
          obtain ⟨j1, j2, j3⟩ := i4 rfl ⟨hl, fun j hj => hh.2 j (by omega)⟩
          refine ⟨?_, fun j hj h2 => ?_, fun j hj => ?_⟩
          · show rowB ts (l ++ [v]) k ++ piece (intAt ts k) (intAt (l ++ [v]) k) = _
            rw [rowB_congr ts (hat v), j1, hat2, ht]
            unfold piece
            rw [if_neg (by omega), z1, List.take_add]
          · simp only
            by_cases hjk : j = k
            · subst hjk; omega
            · rw [hat v j (by omega)]; exact j2 j (by omega) h2
          · simp only
            by_cases hjk : j = k
            · subst hjk; rw [hat2]; omega
            · rw [hat v j (by omega)]; exact j3 j (by omega)
        · rw [rdStep_intE hz]
          have := zagE_cases (b.drop i)
          refine ⟨i1, by simp only; omega, by simp only; omega, fun h => absurd h hz, fun h => absurd h hz⟩
      · by_cases h1 : b.length ≤ i
        · rw [rdStep_end ht h1]
          exact ⟨i1, by simp only; omega, by simp, fun h => by simp at h, fun h => by simp at h⟩
        · by_cases h2 : 1 < byteAt b i
          · rw [rdStep_form ht (by omega) h2]
            exact ⟨i1, by simp only; omega, by simp, fun h => by simp at h, fun h => by simp at h⟩
          · rw [rdStep_bool ht (by omega) (by omega)]
            refine ⟨by simp only; omega, by simp [hl], by simp, fun _ hh => ?_, fun _ => by simp [hl]⟩
            obtain ⟨j1, j2, j3⟩ := i4 rfl ⟨hl, fun j hj => hh.2 j (by omega)⟩
            have ht2 : intAt ts k = 2 := by have := hh.2 k (by omega); omega
            refine ⟨?_, fun j hj h2 => ?_, fun j hj => ?_⟩
            · show rowB ts (l ++ [_]) k ++ piece (intAt ts k) (intAt (l ++ [_]) k) = _
              rw [rowB_congr ts (hat _), j1, hat2, ht2]
              unfold piece
              rw [if_pos rfl, List.take_add, List.drop_eq_getElem_cons (by omega)]
              simp only [List.take_succ_cons, List.take_zero, Int.toNat_natCast]
              congr 2
              unfold byteAt
              simp [List.getD_eq_getElem?_getD, Nat.not_le.1 h1]
            · simp only
              by_cases hjk : j = k
              · subst hjk; rw [hat2]; omega
              · rw [hat _ j (by omega)]; exact j2 j (by omega) h2
            · simp only
              by_cases hjk : j = k
              · subst hjk; rw [hat2]; omega
              · rw [hat _ j (by omega)]; exact j3 j (by omega)
    · rw [rdStep_bad (by simpa using he)]
      exact ⟨i1, by simp only; omega, i3, fun h => absurd h he, fun h => absurd h he⟩

/-- What was written is read. -/
theorem rdK_rowB {ts l : List Int} {n : Nat} (hts : ∀ i, i < n → intAt ts i = 1 ∨ intAt ts i = 2) (hl : l.length = n) (hfit : ∀ i, i < n → intAt ts i = 2 → intAt l i = 0 ∨ intAt l i = 1)
    (hb : ∀ i, i < n → -9223372036854775808 ≤ intAt l i ∧ intAt l i ≤ 9223372036854775807) : ∀ k, k ≤ n → rowK ts (rowB ts l n) k = (l.take k, (rowB ts l k).length, 0) := by
  intro k
  induction k with
  | zero => intro _; simp [rowK, rowB]
  | succ k ih =>
    intro hk
    rw [show rowK ts (rowB ts l n) (k + 1) = rdStep (rowB ts l n) (intAt ts k) (rowK ts (rowB ts l n) k) from rfl, ih (by omega)]
    obtain ⟨more, hm⟩ := rowB_split ts l (k + 1) n hk
    rw [hm, show rowB ts l (k + 1) = rowB ts l k ++ piece (intAt ts k) (intAt l k) from rfl, List.append_assoc]
    have htk : l.take (k + 1) = l.take k ++ [intAt l k] := by
      rw [List.take_succ_eq_append_getElem (by omega)]; unfold intAt; simp [List.getD_eq_getElem?_getD, show k < l.length from by omega]
    have hd : (rowB ts l k ++ (piece (intAt ts k) (intAt l k) ++ more)).drop (rowB ts l k).length = piece (intAt ts k) (intAt l k) ++ more := by rw [List.drop_left]
    rw [htk, List.length_append]
    rcases hts k (by omega) with h | h
    · rw [h] at hd ⊢
      have hp : piece 1 (intAt l k) = digL 9 (zz (intAt l k)) := by unfold piece; rw [if_neg (by omega)]
      rw [hp] at hd ⊢
      obtain ⟨z1, z2, z3⟩ := zag_dig (hb k (by omega)).1 (hb k (by omega)).2 more
      rw [rdStep_int (by rw [hd]; exact z1), hd, z2, z3]
    · have hf := hfit k (by omega) h
      rw [h] at hd ⊢
      have hp : piece 2 (intAt l k) = [UInt8.ofNat (intAt l k).toNat] := by unfold piece; rw [if_pos rfl]
      rw [hp] at hd ⊢
      have hby : byteAt (rowB ts l k ++ ([UInt8.ofNat (intAt l k).toNat] ++ more)) (rowB ts l k).length = (intAt l k).toNat := by
        unfold byteAt
        rw [List.getD_eq_getElem?_getD, List.getElem?_append_right (by omega)]
        simp
        rcases hf with e | e <;> rw [e] <;> decide
      rw [rdStep_bool (by omega) (by simp) (by rw [hby]; omega), hby]
      simp
      omega
theorem readR_rowB {ts l : List Int} (hf : fitsB ts l = true) (hb : ∀ i, i < l.length → -9223372036854775808 ≤ intAt l i ∧ intAt l i ≤ 9223372036854775807) : readR ts (rowB ts l ts.length) = (l, 0) := by
  obtain ⟨h1, h2, h3⟩ := fitsB_true.1 hf
  have h4 := rightB_true.1 h1
  have := rdK_rowB h4.1 h2 h3 (by rw [← h2]; exact hb) ts.length (Nat.le_refl _)
  unfold readR
  rw [if_neg (by simp [h1]), this]
  simp
  exact List.take_of_length_le (by omega)
end Go.Proofs.YtalmdccgpigppaaGreat
