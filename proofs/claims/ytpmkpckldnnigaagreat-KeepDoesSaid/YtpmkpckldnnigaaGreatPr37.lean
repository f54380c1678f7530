/- Parts: PlainRDisk. -/
import Derived.Test.YtpmkpckldnnigaaGreatPr29
namespace Go.Proofs.YtpmkpckldnnigaaGreat
open Go.RowKit
set_option linter.unusedVariables false
/-- What is read is what waits, over what is kept; what is in use has room. -/
structure Cons (D : DiskV) : Prop where
  now : D.now = (keepK D.waits (D.kept, D.inuse) D.waits.length).1
  might : D.might = (keepK D.waits (D.kept, D.inuse) D.waits.length).2
  used : (trues D.might : Int) ≤ D.room
theorem trues_set {l : List Bool} {n : Nat} (hn : n < l.length) : trues (l.set n true) = trues l + if l.getD n false then 0 else 1 := by
  induction l generalizing n with
  | nil => simp at hn
  | cons b l ih =>
    cases n with
    | zero => cases b <;> simp [trues]
    | succ n =>
      have := ih (n := n) (by simpa using hn)
      unfold trues at this ⊢
      rw [List.set_cons_succ]
      cases b with
      | true => rw [List.filter_cons_of_pos rfl, List.filter_cons_of_pos rfl, List.length_cons, List.length_cons, this]; simp only [List.getD_cons_succ]; omega
      | false => rw [List.filter_cons_of_neg (by simp), List.filter_cons_of_neg (by simp), this]; simp only [List.getD_cons_succ]
theorem trues_mono : ∀ {l m : List Bool}, l.length = m.length → (∀ n, l.getD n false = true → m.getD n false = true) → trues l ≤ trues m := by
  intro l
  induction l with
  | nil => intro m _ _; simp [trues]
  | cons b l ih =>
    intro m hl h
    cases m with
    | nil => simp at hl
    | cons c m =>
      have h1 := ih (m := m) (by simpa using hl) (fun n hn => by have := h (n + 1) (by simpa using hn); simpa using this)
      have h0 : b = true → c = true := fun e => by simpa using h 0 (by simpa using e)
      unfold trues at h1 ⊢
      cases b with
      | true =>
        rw [h0 rfl, List.filter_cons_of_pos rfl, List.filter_cons_of_pos rfl, List.length_cons, List.length_cons]; omega
      | false =>
        rw [List.filter_cons_of_neg (by simp)]
        cases c with
        | true => rw [List.filter_cons_of_pos rfl, List.length_cons]; omega
        | false => rw [List.filter_cons_of_neg (by simp)]; exact h1
section
variable {D : DiskV}
theorem Cons.ops (h : Cons D) (o : List Int) : Cons { D with ops := o } := ⟨h.now, h.might, h.used⟩
theorem Cons.goes (h : Cons D) (k : Int) : Cons (goesV D k) := ⟨h.now, h.might, h.used⟩
theorem Cons.put (h : Cons D) (ok : D.Ok) {n : Int} (h0 : 0 ≤ n) (h1 : n < D.many) (b : List UInt8) (hf : fullB D n = false) : Cons (putD D n b) := by
  refine ⟨?_, ?_, ?_⟩
  · show splice D.now (n.toNat * 128) b = (keepK (D.waits ++ [(n.toNat, b)]) (D.kept, D.inuse) (D.waits ++ [(n.toNat, b)]).length).1
    rw [keepK_app, ← h.now]
  · show D.might.set n.toNat true = (keepK (D.waits ++ [(n.toNat, b)]) (D.kept, D.inuse) (D.waits ++ [(n.toNat, b)]).length).2
    rw [keepK_app, ← h.might]
  · show (trues (D.might.set n.toNat true) : Int) ≤ D.room
    rw [trues_set (by rw [ok.might]; omega)]
    unfold fullB at hf
    have := h.used
    cases hb : D.might.getD n.toNat false with
    | true => simp; exact this
    | false =>
      rw [hb] at hf
      simp only [Bool.not_false, Bool.true_and, beq_eq_false_iff_ne] at hf
      simp
      omega
theorem Cons.write (h : Cons D) (ok : D.Ok) (n : Int) (b : List UInt8) : Cons (writeV D n b).1 := by
  unfold writeV
  split
  · exact h
  · split
    · exact h
    · rename_i hm hf
      obtain ⟨_, h0, h1⟩ := mayV_zero (D := D) (n := n) (by omega)
      exact (h.put ok h0 h1 b (by simpa using hf)).goes 2
theorem Cons.flush (h : Cons D) : Cons (flushV D).1 := by
  unfold flushV
  split
  · exact h
  · split
    · exact h.goes 3
    · exact ⟨h.now, h.might, h.used⟩
theorem keepK_len2 (W : List (Nat × List UInt8)) (s : List UInt8 × List Bool) : ∀ k, (keepK W s k).2.length = s.2.length := by
  intro k
  induction k with
  | zero => rfl
  | succ k ih => show ((keepK W s k).2.set _ true).length = _; rw [List.length_set, ih]
theorem crashK_len2 (W : List (Nat × List UInt8)) (cs : List UInt8) (s : List UInt8 × List Bool) : ∀ k, (crashK W cs s k).2.length = s.2.length := by
  intro k
  induction k with
  | zero => rfl
  | succ k ih =>
    unfold crashK
    simp only
    split
    · rw [List.length_set, ih]
    · exact ih
theorem crash_sub (W : List (Nat × List UInt8)) (cs : List UInt8) (s : List UInt8 × List Bool) (n : Nat) : ∀ k, (crashK W cs s k).2.getD n false = true → (keepK W s k).2.getD n false = true := by
  intro k
  induction k with
  | zero => intro h; exact h
  | succ k ih =>
    intro h
    show ((keepK W s k).2.set (pieceAt W k).1 true).getD n false = true
    rw [List.getD_eq_getElem?_getD, List.getElem?_set]
    unfold crashK at h
    simp only at h
    split
    · rename_i q
      split
      · rfl
      · rename_i q2
        exfalso
        have hl := crashK_len2 W cs s k
        have hl2 := keepK_len2 W s k
        split at h
        · rw [List.getD_eq_getElem?_getD, List.getElem?_eq_none (by rw [List.length_set]; omega)] at h; cases h
        · rw [List.getD_eq_getElem?_getD, List.getElem?_eq_none (by omega)] at h; cases h
    · rename_i q
      rw [← List.getD_eq_getElem?_getD]
      apply ih
      split at h
      · rw [List.getD_eq_getElem?_getD, List.getElem?_set, if_neg q, ← List.getD_eq_getElem?_getD] at h; exact h
      · exact h
theorem keepK_grow (W : List (Nat × List UInt8)) (s : List UInt8 × List Bool) (n : Nat) {i : Nat} (h : (keepK W s i).2.getD n false = true) : ∀ k, i ≤ k → (keepK W s k).2.getD n false = true := by
  intro k
  induction k with
  | zero => intro hk; have : i = 0 := by omega
            subst this; exact h
  | succ k ih =>
    intro hk
    rcases Nat.lt_or_ge k i with q | q
    · have : i = k + 1 := by omega
      subst this; exact h
    · show ((keepK W s k).2.set (pieceAt W k).1 true).getD n false = true
      have h1 := ih q
      rw [List.getD_eq_getElem?_getD, List.getElem?_set]
      split
      · split
        · rfl
        · rename_i q1 q2
          rw [List.getD_eq_getElem?_getD, List.getElem?_eq_none (by omega)] at h1
          cases h1
      · rw [← List.getD_eq_getElem?_getD]; exact h1
theorem Cons.crash (h : Cons D) (ok : D.Ok) (cs : List UInt8) : Cons (crashV D cs) := by
  refine ⟨rfl, rfl, ?_⟩
  have h1 : trues (crashV D cs).might ≤ trues D.might := by
    apply trues_mono
    · show (crashK D.waits cs (D.kept, D.inuse) _).2.length = _
      rw [crashK_len2, ok.might]; exact ok.inuse
    · intro n hn
      rw [h.might]
      exact keepK_grow _ _ _ (crash_sub D.waits cs (D.kept, D.inuse) n _ hn) _ (Nat.min_le_left _ _)
  have := h.used
  show (trues (crashV D cs).might : Int) ≤ D.room
  omega
theorem trues_trueK {many k : Nat} (h : k ≤ many) : trues (trueK many k) = k := by
  unfold trues trueK
  rw [List.filter_append, List.length_append]
  have h1 : (List.replicate k true).filter id = List.replicate k true := by rw [List.filter_replicate]; rfl
  have h2 : (List.replicate (many - k) false).filter id = [] := by rw [List.filter_replicate]; rfl
  rw [h1, h2]; simp
theorem cons_load {many : Nat} {room : Int} {img : List UInt8} {k : Nat} (hk : k ≤ many) (hr : (k : Int) ≤ room) : Cons (loadD many room img k) := ⟨rfl, rfl, by show (trues (trueK many k) : Int) ≤ room; rw [trues_trueK hk]; exact hr⟩
end
end Go.Proofs.YtpmkpckldnnigaaGreat
