/- Parts: PlainRDisk. -/
import Derived.Test.YtalmdccgpigppaaGreatPr20
namespace Go.Proofs.YtalmdccgpigppaaGreat
open Go.RowKit
set_option linter.unusedVariables false
/-- What is read is what waits, over what is kept; what is in use has room. -/
structure Cons (D : DiskV) : Prop where
  now : D.now = (keepK D.waits (D.kept, D.inuse) D.waits.length).1
  might : D.might = (keepK D.waits (D.kept, D.inuse) D.waits.length).2
  used : (trues D.might : Int) ≤ D.room
theorem trues_set {l : List Bool} {n : Nat} (hn : n < l.length) : trues (l.set n true) = trues l + if l.getD n false then 0 else 1 := by
  induction l generalizing n with
  | nil => simp at hn
  | cons b l ih =>
    cases n with
    | zero => cases b <;> simp [trues]
    | succ n =>
      have := ih (n := n) (by simpa using hn)
      unfold trues at this ⊢
      rw [List.set_cons_succ]
      cases b with
      | true => rw [List.filter_cons_of_pos rfl, List.filter_cons_of_pos rfl, List.length_cons, List.length_cons, this]; simp only [List.getD_cons_succ]; omega
      | false => rw [List.filter_cons_of_neg (by simp), List.filter_cons_of_neg (by simp), this]; simp only [List.getD_cons_succ]
theorem trues_mono : ∀ {l m : List Bool}, l.length = m.length → (∀ n, l.getD n false = true → m.getD n false = true) → trues l ≤ trues m := by
  intro l
  induction l with
  | nil => intro m _ _; simp [trues]
  | cons b l ih =>
    intro m hl h
    cases m with
    | nil => simp at hl
    | cons c m =>
      have h1 := ih (m := m) (by simpa using hl) (fun n hn => by have := h (n + 1) (by simpa using hn); simpa using this)
      have h0 : b = true → c = true := fun e => by simpa using h 0 (by simpa using e)
      unfold trues at h1 ⊢
      cases b with
      | true =>
        rw [h0 rfl, List.filter_cons_of_pos rfl, List.filter_cons_of_pos rfl, List.length_cons, List.length_cons]; omega
      | false =>
        rw [List.filter_cons_of_neg (by simp)]
        cases c with
        | true => rw [List.filter_cons_of_pos rfl, List.length_cons]; omega
        | false => rw [List.filter_cons_of_neg (by simp)]; exact h1
section
variable {D : DiskV}
theorem Cons.ops (h : Cons D) (o : List Int) : Cons { D with ops := o } := ⟨h.now, h.might, h.used⟩
theorem Cons.goes (h : Cons D) (k : Int) : Cons (goesV D k) := ⟨h.now, h.might, h.used⟩
theorem Cons.put (h : Cons D) (ok : D.Ok) {n : Int} (h0 : 0 ≤ n) (h1 : n < D.many) (b : List UInt8) (hf : fullB D n = false) : Cons (putD D n b) := by
  refine ⟨?_, ?_, ?_⟩
  · show splice D.now (n.toNat * 128) b = (keepK (D.waits ++ [(n.toNat, b)]) (D.kept, D.inuse) (D.waits ++ [(n.toNat, b)]).length).1
    rw [keepK_app, ← h.now]
  · show D.might.set n.toNat true = (keepK (D.waits ++ [(n.toNat, b)]) (D.kept, D.inuse) (D.waits ++ [(n.toNat, b)]).length).2
    rw [keepK_app, ← h.might]
  · show (trues (D.might.set n.toNat true) : Int) ≤ D.room
    rw [trues_set (by rw [ok.might]; omega)]
    unfold fullB at hf
    have := h.used
    cases hb : D.might.getD n.toNat false with
    | true => simp; exact this
    | false =>
      rw [hb] at hf
      simp only [Bool.not_false, Bool.true_and, beq_eq_false_iff_ne] at hf
      simp
      omega
theorem Cons.write (h : Cons D) (ok : D.Ok) (n : Int) (b : List UInt8) : Cons (writeV D n b).1 := by
  unfold writeV
  split
  · exact h
  · split
    · exact h
    · rename_i hm hf
      obtain ⟨_, h0, h1⟩ := mayV_zero (D := D) (n := n) (by omega)
      exact (h.put ok h0 h1 b (by simpa using hf)).goes 2
theorem Cons.flush (h : Cons D) : Cons (flushV D).1 := by
  unfold flushV
  split
  · exact h
  · split
    · exact h.goes 3
    · exact ⟨h.now, h.might, h.used⟩
theorem keepK_len2 (W : List (Nat × List UInt8)) (s : List UInt8 × List Bool) : ∀ k, (keepK W s k).2.length = s.2.length := by
  intro k
  induction k with
  | zero => rfl
  | succ k ih => show ((keepK W s k).2.set _ true).length = _; rw [List.length_set, ih]
theorem keepK_hit {W : List (Nat × List UInt8)} {s : List UInt8 × List Bool} {n j : Nat} (hj : (pieceAt W j).1 = n) (hn : n < s.2.length) : ∀ k, j < k → (keepK W s k).2.getD n false = true := by
  intro k
  induction k with
  | zero => intro h; omega
  | succ k ih =>
    intro h
    show ((keepK W s k).2.set _ true).getD n false = true
    rw [List.getD_eq_getElem?_getD, List.getElem?_set]
    split
    · rw [if_pos (by rw [keepK_len2]; rename_i q; omega)]; rfl
    · rename_i q
      rw [← List.getD_eq_getElem?_getD]
      rcases Nat.lt_or_ge j k with h2 | h2
      · exact ih h2
      · have : j = k := by omega
        subst this
        exact absurd hj q
theorem keepK_no {W : List (Nat × List UInt8)} {s : List UInt8 × List Bool} {n : Nat} : ∀ k, (∀ j, j < k → (pieceAt W j).1 ≠ n) → (keepK W s k).2.getD n false = s.2.getD n false := by
  intro k
  induction k with
  | zero => intro _; rfl
  | succ k ih =>
    intro h
    show ((keepK W s k).2.set _ true).getD n false = _
    rw [List.getD_eq_getElem?_getD, List.getElem?_set, if_neg (h k (by omega)), ← List.getD_eq_getElem?_getD]
    exact ih (fun j hj => h j (by omega))
/-- Behind the last piece of a sector. -/
theorem keepK_last (ok : D.Ok) {n : Nat} (hn : n < D.many) {i : Nat} : ∀ k, i ≤ k → k ≤ D.waits.length → (∀ j, i ≤ j → j < k → (pieceAt D.waits j).1 ≠ n) → secOf (keepK D.waits (D.kept, D.inuse) k).1 (n : Int) = secOf (keepK D.waits (D.kept, D.inuse) i).1 (n : Int) := by
  intro k
  induction k with
  | zero => intro h _ _; have : i = 0 := by omega
            subst this; rfl
  | succ k ih =>
    intro h hk hno
    rcases Nat.lt_or_ge k i with q | q
    · have : i = k + 1 := by omega
      subst this; rfl
    · obtain ⟨p1, p2⟩ := pieceAt_ok ok (show k < D.waits.length by omega)
      show secOf (splice (keepK D.waits (D.kept, D.inuse) k).1 ((pieceAt D.waits k).1 * 128) (pieceAt D.waits k).2) (n : Int) = _
      rw [secOf_splice (keepK_len ok k (by omega)).1 p2 p1 hn, if_neg (fun e => hno k q (by omega) e.symm)]
      exact ih q (by omega) (fun j h1 h2 => hno j h1 (by omega))
theorem Cons.at_hit (h : Cons D) (ok : D.Ok) {n i : Nat} (hn : n < D.many) (hi : i < D.waits.length) (hx : (pieceAt D.waits i).1 = n) (hno : ∀ j, i < j → j < D.waits.length → (pieceAt D.waits j).1 ≠ n) : secOf D.now (n : Int) = (pieceAt D.waits i).2 := by
  rw [h.now, keepK_last ok hn (i := i + 1) _ hi (Nat.le_refl _) (fun j h1 h2 => hno j h1 h2)]
  obtain ⟨p1, p2⟩ := pieceAt_ok ok hi
  show secOf (splice (keepK D.waits (D.kept, D.inuse) i).1 ((pieceAt D.waits i).1 * 128) (pieceAt D.waits i).2) (n : Int) = _
  rw [secOf_splice (keepK_len ok i (by omega)).1 p2 p1 hn, if_pos hx.symm]
theorem Cons.at_none (h : Cons D) (ok : D.Ok) {n : Nat} (hn : n < D.many) (hno : ∀ j, j < D.waits.length → (pieceAt D.waits j).1 ≠ n) : secOf D.now (n : Int) = secOf D.kept (n : Int) := by
  rw [h.now, keepK_last ok hn (i := 0) _ (Nat.zero_le _) (Nat.le_refl _) (fun j _ h2 => hno j h2)]; rfl
theorem Cons.is_hit (h : Cons D) (ok : D.Ok) {n i : Nat} (hn : n < D.many) (hi : i < D.waits.length) (hx : (pieceAt D.waits i).1 = n) : D.might.getD n false = true := by
  rw [h.might]; exact keepK_hit hx (by show n < D.inuse.length; rw [ok.inuse]; exact hn) _ hi
theorem Cons.is_none (h : Cons D) {n : Nat} (hno : ∀ j, j < D.waits.length → (pieceAt D.waits j).1 ≠ n) : D.might.getD n false = D.inuse.getD n false := by
  rw [h.might]; exact keepK_no _ hno
theorem crashK_len2 (W : List (Nat × List UInt8)) (cs : List UInt8) (s : List UInt8 × List Bool) : ∀ k, (crashK W cs s k).2.length = s.2.length := by
  intro k
  induction k with
  | zero => rfl
  | succ k ih =>
    unfold crashK
    simp only
    split
    · rw [List.length_set, ih]
    · exact ih
theorem crash_sub (W : List (Nat × List UInt8)) (cs : List UInt8) (s : List UInt8 × List Bool) (n : Nat) : ∀ k, (crashK W cs s k).2.getD n false = true → (keepK W s k).2.getD n false = true := by
  intro k
  induction k with
  | zero => intro h; exact h
  | succ k ih =>
    intro h
    show ((keepK W s k).2.set (pieceAt W k).1 true).getD n false = true
    rw [List.getD_eq_getElem?_getD, List.getElem?_set]
    unfold crashK at h
    simp only at h
    split
    · rename_i q
      split
      · rfl
      · rename_i q2
        exfalso
        have hl := crashK_len2 W cs s k
        have hl2 := keepK_len2 W s k
        split at h
        · rw [List.getD_eq_getElem?_getD, List.getElem?_eq_none (by rw [List.length_set]; omega)] at h; cases h
        · rw [List.getD_eq_getElem?_getD, List.getElem?_eq_none (by omega)] at h; cases h
    · rename_i q
      rw [← List.getD_eq_getElem?_getD]
      apply ih
      split at h
      · rw [List.getD_eq_getElem?_getD, List.getElem?_set, if_neg q, ← List.getD_eq_getElem?_getD] at h; exact h
      · exact h
theorem keepK_grow (W : List (Nat × List UInt8)) (s : List UInt8 × List Bool) (n : Nat) {i : Nat} (h : (keepK W s i).2.getD n false = true) : ∀ k, i ≤ k → (keepK W s k).2.getD n false = true := by
  intro k
  induction k with
  | zero => intro hk; have : i = 0 := by omega
            subst this; exact h
  | succ k ih =>
    intro hk
    rcases Nat.lt_or_ge k i with q | q
    · have : i = k + 1 := by omega
      subst this; exact h
    · show ((keepK W s k).2.set (pieceAt W k).1 true).getD n false = true
      have h1 := ih q
      rw [List.getD_eq_getElem?_getD, List.getElem?_set]
      split
      · split
        · rfl
        · rename_i q1 q2
          rw [List.getD_eq_getElem?_getD, List.getElem?_eq_none (by omega)] at h1
          cases h1
      · rw [← List.getD_eq_getElem?_getD]; exact h1
theorem Cons.crash (h : Cons D) (ok : D.Ok) (cs : List UInt8) : Cons (crashV D cs) := by
  refine ⟨rfl, rfl, ?_⟩
  have h1 : trues (crashV D cs).might ≤ trues D.might := by
    apply trues_mono
    · show (crashK D.waits cs (D.kept, D.inuse) _).2.length = _
      rw [crashK_len2, ok.might]; exact ok.inuse
    · intro n hn
      rw [h.might]
      exact keepK_grow _ _ _ (crash_sub D.waits cs (D.kept, D.inuse) n _ hn) _ (Nat.min_le_left _ _)
  have := h.used
  show (trues (crashV D cs).might : Int) ≤ D.room
  omega
/-- Choices beyond the last are noughts. -/
theorem crashK_over (W : List (Nat × List UInt8)) (cs : List UInt8) (s : List UInt8 × List Bool) : ∀ k, cs.length ≤ k → crashK W cs s k = crashK W cs s cs.length := by
  intro k
  induction k with
  | zero => intro h; have : cs.length = 0 := by omega
            rw [this]
  | succ k ih =>
    intro h
    rcases Nat.lt_or_ge k cs.length with q | q
    · have : cs.length = k + 1 := by omega
      rw [this]
    · have e : byteAt cs k = 0 := by unfold byteAt; rw [List.getD_eq_getElem?_getD, List.getElem?_eq_none q]; rfl
      rw [← ih q]
      show (splice (crashK W cs s k).1 ((pieceAt W k).1 * 128) ((pieceAt W k).2.take (min (byteAt cs k) 128)), if 0 < byteAt cs k then _ else _) = _
      rw [e]
      simp [splice]
theorem crashE_all (D : DiskV) (cs : List UInt8) : crashE D cs = crashK D.waits cs (D.kept, D.inuse) D.waits.length := by
  unfold crashE
  rcases Nat.le_total D.waits.length cs.length with q | q
  · rw [Nat.min_eq_left q]
  · rw [Nat.min_eq_right q, crashK_over _ _ _ _ q]
theorem trues_trueK {many k : Nat} (h : k ≤ many) : trues (trueK many k) = k := by
  unfold trues trueK
  rw [List.filter_append, List.length_append]
  have h1 : (List.replicate k true).filter id = List.replicate k true := by rw [List.filter_replicate]; rfl
  have h2 : (List.replicate (many - k) false).filter id = [] := by rw [List.filter_replicate]; rfl
  rw [h1, h2]; simp
theorem cons_load {many : Nat} {room : Int} {img : List UInt8} {k : Nat} (hk : k ≤ many) (hr : (k : Int) ≤ room) : Cons (loadD many room img k) := ⟨rfl, rfl, by show (trues (trueK many k) : Int) ≤ room; rw [trues_trueK hk]; exact hr⟩
end
end Go.Proofs.YtalmdccgpigppaaGreat
