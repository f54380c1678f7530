/- Parts: PlainFeedB. -/
import Derived.Test.YtalmdccgpigppaaGreatPr45
namespace Go.Proofs.YtalmdccgpigppaaGreat
open Go.RowKit
set_option linter.unusedVariables false
set_option linter.unusedSimpArgs false
theorem loadsOf_app (ts : List Int) (rows : List (List Int)) (l : List Int) : loadsOf ts (rows ++ [l]) = loadsOf ts rows ++ [rowB ts l ts.length] := by simp [loadsOf]
theorem loadsOf_length (ts : List Int) (rows : List (List Int)) : (loadsOf ts rows).length = rows.length := by simp [loadsOf]
theorem loadsOf_take (ts : List Int) (rows : List (List Int)) (n : Nat) : (loadsOf ts rows).take n = loadsOf ts (rows.take n) := by simp [loadsOf, List.map_take]
theorem RowsOk.app {ts : List Int} {rows : List (List Int)} {l : List Int} (h : RowsOk ts rows) (h1 : fitsB ts l = true) (h2 : IntOk l) : RowsOk ts (rows ++ [l]) :=
  ⟨fun x hx => by rcases List.mem_append.1 hx with q | q; exact h.fits x q; rw [List.mem_singleton.1 q]; exact h1, fun x hx => by rcases List.mem_append.1 hx with q | q; exact h.ints x q; rw [List.mem_singleton.1 q]; exact h2⟩
theorem RowsOk.take_ {ts : List Int} {rows : List (List Int)} (h : RowsOk ts rows) (n : Nat) : RowsOk ts (rows.take n) := ⟨fun x hx => h.fits x (List.mem_of_mem_take hx), fun x hx => h.ints x (List.mem_of_mem_take hx)⟩
theorem RowsOk.nil (ts : List Int) : RowsOk ts [] := ⟨fun x hx => (by cases hx), fun x hx => (by cases hx)⟩
section
variable {D : DiskV} {N : Secs} {P : Says} {f m kind : Nat} {ts l : List Int} {rows : List (List Int)}
/-- A row is put. -/
theorem Pow.fput (h : Pow D N P) (hfm : f + m ≤ D.many) (k1 : 1 ≤ kind) (k2 : kind ≤ 255) (hj : Jrn N f m kind (loadsOf ts rows)) (hR : RowsOk ts rows) (hl : IntOk l) (hw : D.waits.length < 1000000)
    (hP : fitsB ts l = true → rows.length < m → ShutAt (P (f + rows.length)) (sealL kind rows.length (rowB ts l ts.length))) :
    (fPutV D f m (kind : Int) rows.length ts l).1.many = D.many ∧
    (((fPutV D f m (kind : Int) rows.length ts l) = (D, rows.length, 0, 41) ∧ fitsB ts l = false) ∨ ((fPutV D f m (kind : Int) rows.length ts l) = (D, rows.length, 0, 52) ∧ rows.length = m) ∨
    ((fPutV D f m (kind : Int) rows.length ts l).2 = (rows.length + 1, (rows.length : Int), 0) ∧ Pow (fPutV D f m (kind : Int) rows.length ts l).1 (putN N (f + rows.length) (sealL kind rows.length (rowB ts l ts.length))) P ∧
      Jrn (putN N (f + rows.length) (sealL kind rows.length (rowB ts l ts.length))) f m kind (loadsOf ts (rows ++ [l])) ∧ RowsOk ts (rows ++ [l]) ∧ (fPutV D f m (kind : Int) rows.length ts l).1.waits.length = D.waits.length + 1 ∧ (D.cut = -1 → (fPutV D f m (kind : Int) rows.length ts l).1.cut = -1)) ∨
    ((fPutV D f m (kind : Int) rows.length ts l).2 = (rows.length, 0, 50) ∧ (fPutV D f m (kind : Int) rows.length ts l).1.off = true ∧ D.cut ≠ -1 ∧ fitsB ts l = true ∧ rows.length < m ∧ Safe (fPutV D f m (kind : Int) rows.length ts l).1 P)) := by
  cases hf : fitsB ts l with
  | false =>
    have : fPutV D f m (kind : Int) rows.length ts l = (D, rows.length, 0, 41) := by unfold fPutV; rw [if_pos hf]
    rw [this]
    exact ⟨rfl, .inl ⟨rfl, rfl⟩⟩
  | true =>
    have hr := fits_right hf
    have hrl := row_len hr l
    have e : fPutV D f m (kind : Int) rows.length ts l = jAddV D f m (kind : Int) rows.length (rowB ts l ts.length) := by unfold fPutV; rw [if_neg (by rw [hf]; simp)]
    have hle := hj.le
    rw [loadsOf_length] at hle
    rw [e]
    by_cases hm : rows.length = m
    · have : jAddV D f m (kind : Int) rows.length (rowB ts l ts.length) = (D, rows.length, 0, 52) := by
        unfold jAddV
        rw [if_neg (by omega), if_pos (by omega)]
      rw [this]
      exact ⟨rfl, .inr (.inl ⟨rfl, hm⟩)⟩
    · have hlt : rows.length < m := by omega
      obtain ⟨a1, a2, a3⟩ := h.jadd hfm k1 k2 hlt (l := rowB ts l ts.length) (by omega) hw (hP hf hlt)
      refine ⟨a1, ?_⟩
      rcases a3 with ⟨b1, b2, b3⟩ | ⟨b1, b2, b3, b4⟩
      · have hp := hj.put (by rw [loadsOf_length]; exact hlt) (l := rowB ts l ts.length) (by omega)
        rw [loadsOf_length] at hp
        exact .inr (.inr (.inl ⟨b1, b2, by rw [loadsOf_app]; exact hp, hR.app hf hl, by rw [a2]; simp, b3⟩))
      · exact .inr (.inr (.inr ⟨b1, b2, b3, rfl, hlt, b4⟩))
/-- A row is added, and kept. -/
theorem Rest.fadd (h : Rest D N) (hfm : f + m ≤ D.many) (k1 : 1 ≤ kind) (k2 : kind ≤ 255) (hj : Jrn N f m kind (loadsOf ts rows)) (hR : RowsOk ts rows) (hl : IntOk l) (hN : ∀ s : Nat, s < D.many → P s (N s))
    (hP : fitsB ts l = true → rows.length < m → ShutAt (P (f + rows.length)) (sealL kind rows.length (rowB ts l ts.length))) :
    (fAddV D f m (kind : Int) rows.length ts l).1.many = D.many ∧
    (((fAddV D f m (kind : Int) rows.length ts l) = (D, rows.length, 0, 41) ∧ fitsB ts l = false) ∨ ((fAddV D f m (kind : Int) rows.length ts l) = (D, rows.length, 0, 52) ∧ rows.length = m) ∨
    ((fAddV D f m (kind : Int) rows.length ts l).2 = (rows.length + 1, (rows.length : Int), 0) ∧ Rest (fAddV D f m (kind : Int) rows.length ts l).1 (putN N (f + rows.length) (sealL kind rows.length (rowB ts l ts.length))) ∧
      Jrn (putN N (f + rows.length) (sealL kind rows.length (rowB ts l ts.length))) f m kind (loadsOf ts (rows ++ [l])) ∧ RowsOk ts (rows ++ [l]) ∧ (D.cut = -1 → (fAddV D f m (kind : Int) rows.length ts l).1.cut = -1)) ∨
    ((fAddV D f m (kind : Int) rows.length ts l).2.2 = (0, 50) ∧ (fAddV D f m (kind : Int) rows.length ts l).1.off = true ∧ D.cut ≠ -1 ∧ fitsB ts l = true ∧ rows.length < m ∧ Safe (fAddV D f m (kind : Int) rows.length ts l).1 P)) := by
  obtain ⟨a1, a2⟩ := (h.pow hN).fput hfm k1 k2 hj hR hl (by rw [h.waits]; simp) hP
  have hun : fAddV D f m (kind : Int) rows.length ts l = if (fPutV D f m (kind : Int) rows.length ts l).2.2.2 ≠ 0 then ((fPutV D f m (kind : Int) rows.length ts l).1, (fPutV D f m (kind : Int) rows.length ts l).2.1, 0, (fPutV D f m (kind : Int) rows.length ts l).2.2.2)
      else if (flushV (fPutV D f m (kind : Int) rows.length ts l).1).2 ≠ 0 then ((flushV (fPutV D f m (kind : Int) rows.length ts l).1).1, (fPutV D f m (kind : Int) rows.length ts l).2.1, 0, (flushV (fPutV D f m (kind : Int) rows.length ts l).1).2)
      else ((flushV (fPutV D f m (kind : Int) rows.length ts l).1).1, (fPutV D f m (kind : Int) rows.length ts l).2.1, (fPutV D f m (kind : Int) rows.length ts l).2.2.1, 0) := rfl
  generalize fPutV D f m (kind : Int) rows.length ts l = R at *
  generalize fAddV D f m (kind : Int) rows.length ts l = S at *
  obtain ⟨D1, nx, v, er⟩ := R
  simp only at a1 a2 hun
  rcases a2 with ⟨q, c1⟩ | ⟨q, c1⟩ | ⟨c1, c2, c3, c4, c5, c6⟩ | ⟨c1, c2, c3, c4, c5, c6⟩
  · injection q with q1 q; injection q with q2 q; injection q with q3 q4
    subst q1 q2 q3 q4
    rw [if_pos (by simp)] at hun
    rw [hun]
    exact ⟨rfl, .inl ⟨rfl, c1⟩⟩
  · injection q with q1 q; injection q with q2 q; injection q with q3 q4
    subst q1 q2 q3 q4
    rw [if_pos (by simp)] at hun
    rw [hun]
    exact ⟨rfl, .inr (.inl ⟨rfl, c1⟩)⟩
  · injection c1 with q1 c1; injection c1 with q2 q3
    subst q1 q2 q3
    rw [if_neg (by simp)] at hun
    obtain ⟨d1, d2⟩ := c2.flush
    rcases d2 with ⟨e1, e2, e3⟩ | ⟨e1, e2, e3, e4⟩
    · rw [if_neg (by rw [e1]; simp)] at hun
      rw [hun]
      exact ⟨d1.trans a1, .inr (.inr (.inl ⟨rfl, e2, c3, c4, fun q => e3 (c6 q)⟩))⟩
    · rw [if_pos (by rw [e1]; simp)] at hun
      rw [hun]
      have hlt : rows.length < m := by
        have := c3.le
        rw [loadsOf_length, List.length_append, List.length_singleton] at this
        omega
      exact ⟨d1.trans a1, .inr (.inr (.inr ⟨by rw [e1], e2, fun q => e3 (c6 q), c4.fits l (by simp), hlt, e4⟩))⟩
  · injection c1 with q1 c1; injection c1 with q2 q3
    subst q1 q2 q3
    rw [if_pos (by simp)] at hun
    rw [hun]
    exact ⟨a1, .inr (.inr (.inr ⟨rfl, c2, c3, c4, c5, c6⟩))⟩
/-- A journal of rows is opened. -/
theorem Rest.fopen {k : Nat} (h : Rest D N) (hr : rightB ts = true) (hfm : f + m ≤ D.many) (k1 : 1 ≤ kind) (k2 : kind ≤ 255) (hm : m ≤ 4096) (hR : RowsOk ts rows) (hk : k ≤ rows.length) (hle : rows.length ≤ m)
    (hj : ∀ n, n < m → SecJ kind k (loadsOf ts rows) n (N (f + n))) (hN : ∀ s : Nat, s < D.many → P s (N s)) (hz : ∀ n, k ≤ n → n < m → ShutAt (P (f + n)) zerosL) :
    (fOpenV D f m (kind : Int) ts).1.many = D.many ∧
    ((∃ nx, k ≤ nx ∧ nx ≤ rows.length ∧ (fOpenV D f m (kind : Int) ts).2 = (nx, 0) ∧ Rest (fOpenV D f m (kind : Int) ts).1 (wipeN N f nx m) ∧ Jrn (wipeN N f nx m) f m kind (loadsOf ts (rows.take nx)) ∧ (D.cut = -1 → (fOpenV D f m (kind : Int) ts).1.cut = -1)) ∨
    ((fOpenV D f m (kind : Int) ts).2 = (0, 50) ∧ (fOpenV D f m (kind : Int) ts).1.off = true ∧ D.cut ≠ -1 ∧ Safe (fOpenV D f m (kind : Int) ts).1 P)) := by
  obtain ⟨nx, f1, f2, f3, f4, f5, f6⟩ := found (N := N) (f := f) (all := loadsOf ts rows) (k := k) (m := m) (kind := kind) (loadsOf_len hr) (by rw [loadsOf_length]; exact hk) (by rw [loadsOf_length]; exact hle) k1 k2 hm hj
  rw [loadsOf_length] at f2
  rw [loadsOf_take] at f6
  obtain ⟨a1, a2⟩ := h.jopen (kind := (kind : Int)) (by omega) (by omega) hfm hN f3 f4 f5 (fun n q1 q2 => hz n (by omega) q2)
  have hun : fOpenV D f m (kind : Int) ts = if rightB ts = false then (D, 0, 2)
    else if (jOpenV D f m (kind : Int)).2.2 ≠ 0 then ((jOpenV D f m (kind : Int)).1, 0, (jOpenV D f m (kind : Int)).2.2)
    else if (fAllK (jOpenV D f m (kind : Int)).1 f m (kind : Int) (jOpenV D f m (kind : Int)).2.1 ts (jOpenV D f m (kind : Int)).2.1).2 ≠ 0 then ((fAllK (jOpenV D f m (kind : Int)).1 f m (kind : Int) (jOpenV D f m (kind : Int)).2.1 ts (jOpenV D f m (kind : Int)).2.1).1, 0, (fAllK (jOpenV D f m (kind : Int)).1 f m (kind : Int) (jOpenV D f m (kind : Int)).2.1 ts (jOpenV D f m (kind : Int)).2.1).2)
    else ((fAllK (jOpenV D f m (kind : Int)).1 f m (kind : Int) (jOpenV D f m (kind : Int)).2.1 ts (jOpenV D f m (kind : Int)).2.1).1, (jOpenV D f m (kind : Int)).2.1, 0) := rfl
  generalize jOpenV D f m (kind : Int) = R at *
  generalize fOpenV D f m (kind : Int) ts = S at *
  obtain ⟨D1, n1, er⟩ := R
  simp only at a1 a2 hun
  rw [if_neg (by rw [hr]; simp)] at hun
  rcases a2 with ⟨c1, c2, c3⟩ | ⟨c1, c2, c3, c4⟩
  · injection c1 with q1 q2
    subst q1 q2
    rw [if_neg (by simp)] at hun
    have hlen : (rows.take n1).length = n1 := by rw [List.length_take]; omega
    have hall := fall_ok (D := D1) (N := wipeN N f n1 m) (f := f) (m := m) (kind := kind) (ts := ts) (rows := rows.take n1) c2.fit.off c2.now (hR.take_ n1) f6 (by omega) k1 k2 hm n1 (by omega)
    rw [hlen] at hall
    obtain ⟨o, ho⟩ := rdK_ops D1 n1
    rw [hall, if_neg (by simp)] at hun
    simp only at hun
    rw [hun]
    refine ⟨by rw [ho]; exact a1, .inl ⟨n1, f1, f2, rfl, ?_, f6, fun q => ?_⟩⟩
    · rw [ho]; exact c2.ops o
    · rw [ho]; exact c3 q
  · injection c1 with q1 q2
    subst q1 q2
    rw [if_pos (by simp)] at hun
    rw [hun]
    exact ⟨a1, .inr ⟨rfl, c2, c3, c4⟩⟩
end
end Go.Proofs.YtalmdccgpigppaaGreat
