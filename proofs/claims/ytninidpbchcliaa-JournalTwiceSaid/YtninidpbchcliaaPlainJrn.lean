/- Plain laws: what a journal finds on a disk. -/
import Derived.Test.YtninidpbchcliaaJrnC
import Derived.Test.YtninidpbchcliaaPlainLoad
namespace Go.Proofs.Ytninidpbchcliaa
open Go.RowKit
set_option linter.unusedVariables false
/-- Is the n-th sector the n-th record? -/
def recN (now : List UInt8) (f : Nat) (kind : Int) (n : Nat) : Prop := recB (secOf now ((f + n : Nat) : Int)) kind n = true
structure ScanIs (now : List UInt8) (f : Nat) (kind : Int) (k : Nat) (s : Bool × Nat × List Int) : Prop where
  yes : s.1 = true → s.2.1 = k
  no : s.1 = false → s.2.1 < k ∧ ¬ recN now f kind s.2.1
  recs : ∀ n, n < s.2.1 → recN now f kind n
  le : s.2.1 ≤ k
  dirty : ∀ x ∈ s.2.2, ∃ n : Nat, x = (n : Int) ∧ s.2.1 ≤ n ∧ n < k
  all : ∀ n : Nat, s.2.1 ≤ n → n < k → secOf now ((f + n : Nat) : Int) ≠ zerosL → (n : Int) ∈ s.2.2
theorem scan_is (now : List UInt8) (f : Nat) (kind : Int) : ∀ k, ScanIs now f kind k (scanK now f kind k) := by
  intro k
  induction k with
  | zero => exact ⟨fun _ => rfl, fun h => (by cases h), fun n h => absurd h (by show ¬ n < 0; omega), Nat.le_refl _, fun x h => (by cases h), fun n _ h => absurd h (by omega)⟩
  | succ k ih =>
    unfold scanK
    generalize scanK now f kind k = s at *
    obtain ⟨o, nx, dl⟩ := s
    obtain ⟨h1, h2, h3, h4, h5, h6⟩ := ih
    simp only at h1 h2 h3 h4 h5 h6 ⊢
    split
    · rename_i hc
      have := h1 hc.1
      subst this
      refine ⟨fun _ => rfl, fun h => (by cases h), fun n hn => ?_, Nat.le_refl _, fun x hx => ?_, fun n hn hk hz => ?_⟩
      · simp only at hn
        rcases Nat.lt_or_ge n nx with q | q
        · exact h3 n q
        · have : n = nx := by omega
          subst this; exact hc.2
      · obtain ⟨n, e, q1, q2⟩ := h5 x hx
        omega
      · simp only at hn; omega
    · rename_i hc
      have hlt : nx < k + 1 := by omega
      refine ⟨fun h => (by cases h), fun _ => ⟨hlt, ?_⟩, h3, by simp only; omega, fun x hx => ?_, fun n hn hk hz => ?_⟩
      · simp only
        cases o with
        | false => exact (h2 rfl).2
        | true =>
          have := h1 rfl
          subst this
          exact fun h => hc ⟨rfl, h⟩
      · simp only at hx
        split at hx
        · obtain ⟨n, e, q1, q2⟩ := h5 x hx
          exact ⟨n, e, q1, by omega⟩
        · rcases List.mem_append.1 hx with q | q
          · obtain ⟨n, e, q1, q2⟩ := h5 x q
            exact ⟨n, e, q1, by omega⟩
          · have : x = (k : Int) := by simpa using q
            exact ⟨k, this, by simp only; omega, by omega⟩
      · simp only at hn ⊢
        rcases Nat.lt_or_ge n k with q | q
        · have := h6 n hn q hz
          split
          · exact this
          · exact List.mem_append_left _ this
        · have : n = k := by omega
          subst this
          rw [if_neg hz]
          exact List.mem_append_right _ (by simp)
theorem recB_zeros (kind : Int) (k : Nat) : recB zerosL kind k = false := by
  unfold recB
  cases h : opens zerosL kind with
  | false => rfl
  | true =>
    have := (opens_kind h).2.1
    rw [show byteAt zerosL 127 = 0 from by decide] at this
    omega
/-- What is found where records stand, and noughts behind them. -/
theorem scan_clean {now : List UInt8} {f nx m : Nat} {kind : Int} (hr : ∀ n, n < nx → recN now f kind n) (hz : ∀ n, nx ≤ n → n < m → secOf now ((f + n : Nat) : Int) = zerosL) :
    ∀ k, k ≤ m → (scanK now f kind k).2 = (min k nx, []) ∧ ((scanK now f kind k).1 = decide (k ≤ nx)) := by
  intro k
  induction k with
  | zero => intro _; exact ⟨by rw [Nat.zero_min]; rfl, rfl⟩
  | succ k ih =>
    intro hk
    obtain ⟨h1, h2⟩ := ih (by omega)
    unfold scanK
    rw [h1, h2]
    simp only
    by_cases q : k < nx
    · rw [if_pos ⟨by rw [decide_eq_true_iff]; omega, hr k q⟩]
      exact ⟨by simp only; rw [show min k nx + 1 = min (k + 1) nx by omega], by simp only; symm; rw [decide_eq_true_iff]; omega⟩
    · have hzz := hz k (by omega) (by omega)
      rw [hzz, recB_zeros, if_neg (by simp), if_pos rfl]
      exact ⟨by simp only; rw [show min k nx = min (k + 1) nx by omega], by simp only; symm; rw [decide_eq_false_iff_not]; omega⟩
theorem rdK_calm {D : DiskV} (h : Calm D) (k : Nat) : Calm (rdK D k) ∧ (rdK D k).many = D.many ∧ (rdK D k).waits = D.waits ∧ (rdK D k).now = D.now ∧ (rdK D k).kept = D.kept := by
  obtain ⟨o, e⟩ := rdK_ops D k
  rw [e]; exact ⟨h.ops o, rfl, rfl, rfl, rfl⟩
theorem wipe_calm {f m : Nat} : ∀ (l : List Int) {D : DiskV}, Calm D → f + m ≤ D.many → (∀ x ∈ l, ∃ n : Nat, x = (n : Int) ∧ n < m) → D.waits.length + l.length < 1000000 →
    (wipeK D f m l).2 = 0 ∧ Calm (wipeK D f m l).1 ∧ (wipeK D f m l).1.many = D.many ∧ ∀ k, k < D.many → secOf (wipeK D f m l).1.now (k : Int) = if f ≤ k ∧ ((k : Int) - f) ∈ l then zerosL else secOf D.now (k : Int) := by
  intro l
  induction l with
  | nil => intro D h _ _ _; exact ⟨rfl, h, rfl, fun k _ => by rw [if_neg (by simp)]; rfl⟩
  | cons x l ih =>
    intro D h hfm hx hw
    simp only [List.length_cons] at hw
    obtain ⟨n, rfl, hn⟩ := hx x (List.mem_cons_self ..)
    have e : aWriteV D f m (n : Int) zerosL = writeV D ((f : Int) + n) zerosL := by unfold aWriteV; rw [if_neg (by omega)]
    have e0 : (aWriteV D f m (n : Int) zerosL).2 = 0 := by rw [e, h.write_in (by omega) (by omega)]
    rw [wipeK_step e0, e]
    obtain ⟨c1, c2, c3⟩ := h.write ((f : Int) + n) zerosL_len (by omega)
    obtain ⟨i1, i2, i3, i4⟩ := ih c1 (by rw [c2]; exact hfm) (fun y hy => hx y (List.mem_cons_of_mem _ hy)) (by omega)
    refine ⟨i1, i2, i3.trans c2, fun k hk => ?_⟩
    rw [i4 k (by rw [c2]; exact hk), h.write_now zerosL_len hk]
    by_cases q : f ≤ k ∧ ((k : Int) - f) ∈ l
    · rw [if_pos q, if_pos ⟨q.1, List.mem_cons_of_mem _ q.2⟩]
    · rw [if_neg q]
      by_cases q2 : (f : Int) + n = (k : Int)
      · rw [if_pos q2, if_pos ⟨by omega, by rw [show ((k : Int) - f) = (n : Int) by omega]; exact List.mem_cons_self ..⟩]
      · rw [if_neg q2, if_neg]
        rintro ⟨q3, q4⟩
        rcases List.mem_cons.1 q4 with q5 | q5
        · omega
        · exact q ⟨q3, q5⟩
/-- A journal is opened on a disk whose power stays. -/
theorem open_calm {D : DiskV} {f m : Nat} {kind : Int} (h : Calm D) (hw : D.waits = []) (k1 : 1 ≤ kind) (k2 : kind ≤ 255) (hfm : f + m ≤ D.many) :
    ∃ D1 nx, jOpenV D f m kind = (D1, nx, 0) ∧ nx ≤ m ∧ Calm D1 ∧ D1.waits = [] ∧ D1.many = D.many ∧ (∀ n, n < nx → recN D1.now f kind n) ∧ (∀ n, nx ≤ n → n < m → secOf D1.now ((f + n : Nat) : Int) = zerosL) ∧
      (∀ n, n < nx → secOf D1.now ((f + n : Nat) : Int) = secOf D.now ((f + n : Nat) : Int)) ∧ nx = (scanK D.now f kind m).2.1 := by
  obtain ⟨r1, r2, r3, r4, r5⟩ := rdK_calm h m
  have hs := scan_is D.now f kind m
  have hle := scanK_le D.now f kind m
  have hm4 := h.ok.many1
  have hun : jOpenV D f m kind = if (jWipe D f m kind).2 ≠ 0 then ((jWipe D f m kind).1, 0, (jWipe D f m kind).2)
      else if (scanK D.now f kind m).2.2 = [] then ((jWipe D f m kind).1, (scanK D.now f kind m).2.1, 0)
      else if (flushV (jWipe D f m kind).1).2 ≠ 0 then ((flushV (jWipe D f m kind).1).1, 0, (flushV (jWipe D f m kind).1).2)
      else ((flushV (jWipe D f m kind).1).1, (scanK D.now f kind m).2.1, 0) := by
    unfold jOpenV
    rw [if_neg (by omega), if_neg (by rw [h.off]; simp)]
  unfold jWipe at hun
  generalize scanK D.now f kind m = s at *
  obtain ⟨o, nx, dl⟩ := s
  obtain ⟨h1, h2, h3, h4, h5, h6⟩ := hs
  simp only at h1 h2 h3 h4 h5 h6 hun hle
  obtain ⟨w1, w2, w3, w4⟩ := wipe_calm (f := f) (m := m) dl r1 (by rw [r2]; exact hfm) (fun x hx => by obtain ⟨n, e, _, q⟩ := h5 x hx; exact ⟨n, e, q⟩) (by rw [r3, hw]; simp; omega)
  rw [if_neg (by omega)] at hun
  have sec : ∀ n, n < m → secOf (wipeK (rdK D m) f m dl).1.now ((f + n : Nat) : Int) = if (n : Int) ∈ dl then zerosL else secOf D.now ((f + n : Nat) : Int) := fun n hn => by
    rw [w4 (f + n) (by rw [r2]; omega), r4]
    by_cases q : (n : Int) ∈ dl
    · rw [if_pos ⟨by omega, by rw [show (((f + n : Nat) : Int) - f) = (n : Int) by omega]; exact q⟩, if_pos q]
    · rw [if_neg (fun e => q (by rw [show (n : Int) = (((f + n : Nat) : Int) - f) by omega]; exact e.2)), if_neg q]
  have lo : ∀ n, n < nx → (n : Int) ∉ dl := fun n hn hd => by obtain ⟨n', e, q, _⟩ := h5 _ hd; omega
  have sec1 : ∀ n, n < nx → secOf (wipeK (rdK D m) f m dl).1.now ((f + n : Nat) : Int) = secOf D.now ((f + n : Nat) : Int) := fun n hn => by rw [sec n (by omega), if_neg (lo n hn)]
  have sec2 : ∀ n, nx ≤ n → n < m → secOf (wipeK (rdK D m) f m dl).1.now ((f + n : Nat) : Int) = zerosL := fun n hn hm => by
    rw [sec n hm]
    split
    · rfl
    · rename_i q
      apply Classical.byContradiction
      intro hz
      exact q (h6 n hn hm hz)
  have rec1 : ∀ n, n < nx → recN (wipeK (rdK D m) f m dl).1.now f kind n := fun n hn => by
    have := h3 n hn
    unfold recN at this ⊢
    rw [sec1 n hn]; exact this
  by_cases hd : dl = []
  · rw [if_pos hd] at hun
    refine ⟨_, nx, hun, h4, w2, ?_, w3.trans r2, rec1, sec2, sec1, rfl⟩
    rw [hd]; exact r3.trans hw
  · rw [if_neg hd] at hun
    obtain ⟨fl, fc⟩ := w2.flush
    rw [fl, if_neg (by simp)] at hun
    exact ⟨_, nx, hun, h4, fc, rfl, w3.trans r2, rec1, sec2, sec1, rfl⟩
/-- Opened once more it is the same. -/
theorem open_again {D : DiskV} {f m nx : Nat} {kind : Int} (h : Calm D) (k1 : 1 ≤ kind) (k2 : kind ≤ 255) (hn : nx ≤ m) (hr : ∀ n, n < nx → recN D.now f kind n) (hz : ∀ n, nx ≤ n → n < m → secOf D.now ((f + n : Nat) : Int) = zerosL) :
    jOpenV D f m kind = (rdK D m, nx, 0) := by
  have hs := (scan_clean hr hz m (Nat.le_refl _)).1
  rw [Nat.min_eq_right hn] at hs
  unfold jOpenV jWipe
  rw [if_neg (by omega), if_neg (by rw [h.off]; simp), hs]
  simp only
  rw [show wipeK (rdK D m) f m [] = (rdK D m, 0) from rfl, if_neg (by simp), if_pos trivial]
/-- What a record has. -/
theorem get_rec {D : DiskV} {f m nx n : Nat} {kind : Int} (h : Calm D) (hfm : f + m ≤ D.many) (hnm : nx ≤ m) (hn : n < nx) (hr : recN D.now f kind n) :
    jGetV D f m kind nx (n : Int) = (readV' D, openLoad (secOf D.now ((f + n : Nat) : Int)), 0) := by
  have hon := onRead h.off hfm (show n < m by omega)
  unfold recN recB at hr
  rw [Bool.and_eq_true, decide_eq_true_eq] at hr
  unfold jGetV
  rw [if_neg (by omega)]
  have e : aTakeV D f m (n : Int) kind = ((n : Int), openLoad (secOf D.now ((f + n : Nat) : Int)), 0) := by
    unfold aTakeV
    rw [hon, if_neg (by simp)]
    show openV _ kind = _
    unfold openV
    rw [if_pos hr.1, hr.2]
  rw [e, hon, if_neg (by simp), if_neg (by simp)]
end Go.Proofs.Ytninidpbchcliaa
