/- Parts: PlainFeedB, PlainFeedC, Ints, LsI, Same22. -/
import Derived.Test.YtalmdccgpigppaaPart19
import Derived.Test.YtalmdccgpigppaaPart01
import Derived.Test.YtalmdccgpigppaaPart20
import Derived.Deep.QuietTactic
import Derived.BigQuiet
import Derived.Test.YtalmdccgpigppaaPart22
import Derived.ArgAppend
import Derived.Deep.RegionHeld3
namespace Go.Proofs.Ytalmdccgpigppaa
open Go.RowKit
set_option linter.unusedVariables false
set_option linter.unusedSimpArgs false
theorem loadsOf_app (ts : List Int) (rows : List (List Int)) (l : List Int) : loadsOf ts (rows ++ [l]) = loadsOf ts rows ++ [rowB ts l ts.length] := by simp [loadsOf]
theorem loadsOf_length (ts : List Int) (rows : List (List Int)) : (loadsOf ts rows).length = rows.length := by simp [loadsOf]
theorem loadsOf_take (ts : List Int) (rows : List (List Int)) (n : Nat) : (loadsOf ts rows).take n = loadsOf ts (rows.take n) := by simp [loadsOf, List.map_take]
theorem RowsOk.app {ts : List Int} {rows : List (List Int)} {l : List Int} (h : RowsOk ts rows) (h1 : fitsB ts l = true) (h2 : IntOk l) : RowsOk ts (rows ++ [l]) :=
  ⟨fun x hx => by rcases List.mem_append.1 hx with q | q; exact h.fits x q; rw [List.mem_singleton.1 q]; exact h1, fun x hx => by rcases List.mem_append.1 hx with q | q; exact h.ints x q; rw [List.mem_singleton.1 q]; exact h2⟩
theorem RowsOk.take_ {ts : List Int} {rows : List (List Int)} (h : RowsOk ts rows) (n : Nat) : RowsOk ts (rows.take n) := ⟨fun x hx => h.fits x (List.mem_of_mem_take hx), fun x hx => h.ints x (List.mem_of_mem_take hx)⟩
theorem RowsOk.nil (ts : List Int) : RowsOk ts [] := ⟨fun x hx => (by cases hx), fun x hx => (by cases hx)⟩
section
variable {D : DiskV} {N : Secs} {P : Says} {f m kind : Nat} {ts l : List Int} {rows : List (List Int)}
/-- A row is put. -/
theorem Pow.fput (h : Pow D N P) (hfm : f + m ≤ D.many) (k1 : 1 ≤ kind) (k2 : kind ≤ 255) (hj : Jrn N f m kind (loadsOf ts rows)) (hR : RowsOk ts rows) (hl : IntOk l) (hw : D.waits.length < 1000000)
    (hP : fitsB ts l = true → rows.length < m → ShutAt (P (f + rows.length)) (sealL kind rows.length (rowB ts l ts.length))) :
    (fPutV D f m (kind : Int) rows.length ts l).1.many = D.many ∧
    (((fPutV D f m (kind : Int) rows.length ts l) = (D, rows.length, 0, 41) ∧ fitsB ts l = false) ∨ ((fPutV D f m (kind : Int) rows.length ts l) = (D, rows.length, 0, 52) ∧ rows.length = m) ∨
    ((fPutV D f m (kind : Int) rows.length ts l).2 = (rows.length + 1, (rows.length : Int), 0) ∧ Pow (fPutV D f m (kind : Int) rows.length ts l).1 (putN N (f + rows.length) (sealL kind rows.length (rowB ts l ts.length))) P ∧
      Jrn (putN N (f + rows.length) (sealL kind rows.length (rowB ts l ts.length))) f m kind (loadsOf ts (rows ++ [l])) ∧ RowsOk ts (rows ++ [l]) ∧ (fPutV D f m (kind : Int) rows.length ts l).1.waits.length = D.waits.length + 1 ∧ (D.cut = -1 → (fPutV D f m (kind : Int) rows.length ts l).1.cut = -1)) ∨
    ((fPutV D f m (kind : Int) rows.length ts l).2 = (rows.length, 0, 50) ∧ (fPutV D f m (kind : Int) rows.length ts l).1.off = true ∧ D.cut ≠ -1 ∧ fitsB ts l = true ∧ rows.length < m ∧ Safe (fPutV D f m (kind : Int) rows.length ts l).1 P)) := by
  cases hf : fitsB ts l with
  | false =>
    have : fPutV D f m (kind : Int) rows.length ts l = (D, rows.length, 0, 41) := by unfold fPutV; rw [if_pos hf]
    rw [this]
    exact ⟨rfl, .inl ⟨rfl, rfl⟩⟩
  | true =>
    have hr := fits_right hf
    have hrl := row_len hr l
    have e : fPutV D f m (kind : Int) rows.length ts l = jAddV D f m (kind : Int) rows.length (rowB ts l ts.length) := by unfold fPutV; rw [if_neg (by rw [hf]; simp)]
    have hle := hj.le
    rw [loadsOf_length] at hle
    rw [e]
    by_cases hm : rows.length = m
    · have : jAddV D f m (kind : Int) rows.length (rowB ts l ts.length) = (D, rows.length, 0, 52) := by
        unfold jAddV
        rw [if_neg (by omega), if_pos (by omega)]
      rw [this]
      exact ⟨rfl, .inr (.inl ⟨rfl, hm⟩)⟩
    · have hlt : rows.length < m := by omega
      obtain ⟨a1, a2, a3⟩ := h.jadd hfm k1 k2 hlt (l := rowB ts l ts.length) (by omega) hw (hP hf hlt)
      refine ⟨a1, ?_⟩
      rcases a3 with ⟨b1, b2, b3⟩ | ⟨b1, b2, b3, b4⟩
      · have hp := hj.put (by rw [loadsOf_length]; exact hlt) (l := rowB ts l ts.length) (by omega)
        rw [loadsOf_length] at hp
        exact .inr (.inr (.inl ⟨b1, b2, by rw [loadsOf_app]; exact hp, hR.app hf hl, by rw [a2]; simp, b3⟩))
      · exact .inr (.inr (.inr ⟨b1, b2, b3, rfl, hlt, b4⟩))
/-- A row is added, and kept. -/
theorem Rest.fadd (h : Rest D N) (hfm : f + m ≤ D.many) (k1 : 1 ≤ kind) (k2 : kind ≤ 255) (hj : Jrn N f m kind (loadsOf ts rows)) (hR : RowsOk ts rows) (hl : IntOk l) (hN : ∀ s : Nat, s < D.many → P s (N s))
    (hP : fitsB ts l = true → rows.length < m → ShutAt (P (f + rows.length)) (sealL kind rows.length (rowB ts l ts.length))) :
    (fAddV D f m (kind : Int) rows.length ts l).1.many = D.many ∧
    (((fAddV D f m (kind : Int) rows.length ts l) = (D, rows.length, 0, 41) ∧ fitsB ts l = false) ∨ ((fAddV D f m (kind : Int) rows.length ts l) = (D, rows.length, 0, 52) ∧ rows.length = m) ∨
    ((fAddV D f m (kind : Int) rows.length ts l).2 = (rows.length + 1, (rows.length : Int), 0) ∧ Rest (fAddV D f m (kind : Int) rows.length ts l).1 (putN N (f + rows.length) (sealL kind rows.length (rowB ts l ts.length))) ∧
      Jrn (putN N (f + rows.length) (sealL kind rows.length (rowB ts l ts.length))) f m kind (loadsOf ts (rows ++ [l])) ∧ RowsOk ts (rows ++ [l]) ∧ (D.cut = -1 → (fAddV D f m (kind : Int) rows.length ts l).1.cut = -1)) ∨
    ((fAddV D f m (kind : Int) rows.length ts l).2.2 = (0, 50) ∧ (fAddV D f m (kind : Int) rows.length ts l).1.off = true ∧ D.cut ≠ -1 ∧ fitsB ts l = true ∧ rows.length < m ∧ Safe (fAddV D f m (kind : Int) rows.length ts l).1 P)) := by
  obtain ⟨a1, a2⟩ := (h.pow hN).fput hfm k1 k2 hj hR hl (by rw [h.waits]; simp) hP
  have hun : fAddV D f m (kind : Int) rows.length ts l = if (fPutV D f m (kind : Int) rows.length ts l).2.2.2 ≠ 0 then ((fPutV D f m (kind : Int) rows.length ts l).1, (fPutV D f m (kind : Int) rows.length ts l).2.1, 0, (fPutV D f m (kind : Int) rows.length ts l).2.2.2)
      else if (flushV (fPutV D f m (kind : Int) rows.length ts l).1).2 ≠ 0 then ((flushV (fPutV D f m (kind : Int) rows.length ts l).1).1, (fPutV D f m (kind : Int) rows.length ts l).2.1, 0, (flushV (fPutV D f m (kind : Int) rows.length ts l).1).2)
      else ((flushV (fPutV D f m (kind : Int) rows.length ts l).1).1, (fPutV D f m (kind : Int) rows.length ts l).2.1, (fPutV D f m (kind : Int) rows.length ts l).2.2.1, 0) := rfl
  generalize fPutV D f m (kind : Int) rows.length ts l = R at *
  generalize fAddV D f m (kind : Int) rows.length ts l = S at *
  obtain ⟨D1, nx, v, er⟩ := R
  simp only at a1 a2 hun
  rcases a2 with ⟨q, c1⟩ | ⟨q, c1⟩ | ⟨c1, c2, c3, c4, c5, c6⟩ | ⟨c1, c2, c3, c4, c5, c6⟩
  · injection q with q1 q; injection q with q2 q; injection q with q3 q4
    subst q1 q2 q3 q4
    rw [if_pos (by simp)] at hun
    rw [hun]
    exact ⟨rfl, .inl ⟨rfl, c1⟩⟩
  · injection q with q1 q; injection q with q2 q; injection q with q3 q4
    subst q1 q2 q3 q4
    rw [if_pos (by simp)] at hun
    rw [hun]
    exact ⟨rfl, .inr (.inl ⟨rfl, c1⟩)⟩
  · injection c1 with q1 c1; injection c1 with q2 q3
    subst q1 q2 q3
    rw [if_neg (by simp)] at hun
    obtain ⟨d1, d2⟩ := c2.flush
    rcases d2 with ⟨e1, e2, e3⟩ | ⟨e1, e2, e3, e4⟩
    · rw [if_neg (by rw [e1]; simp)] at hun
      rw [hun]
      exact ⟨d1.trans a1, .inr (.inr (.inl ⟨rfl, e2, c3, c4, fun q => e3 (c6 q)⟩))⟩
    · rw [if_pos (by rw [e1]; simp)] at hun
      rw [hun]
      have hlt : rows.length < m := by
        have := c3.le
        rw [loadsOf_length, List.length_append, List.length_singleton] at this
        omega
      exact ⟨d1.trans a1, .inr (.inr (.inr ⟨by rw [e1], e2, fun q => e3 (c6 q), c4.fits l (by simp), hlt, e4⟩))⟩
  · injection c1 with q1 c1; injection c1 with q2 q3
    subst q1 q2 q3
    rw [if_pos (by simp)] at hun
    rw [hun]
    exact ⟨a1, .inr (.inr (.inr ⟨rfl, c2, c3, c4, c5, c6⟩))⟩
/-- A journal of rows is opened. -/
theorem Rest.fopen {k : Nat} (h : Rest D N) (hr : rightB ts = true) (hfm : f + m ≤ D.many) (k1 : 1 ≤ kind) (k2 : kind ≤ 255) (hm : m ≤ 4096) (hR : RowsOk ts rows) (hk : k ≤ rows.length) (hle : rows.length ≤ m)
    (hj : ∀ n, n < m → SecJ kind k (loadsOf ts rows) n (N (f + n))) (hN : ∀ s : Nat, s < D.many → P s (N s)) (hz : ∀ n, k ≤ n → n < m → ShutAt (P (f + n)) zerosL) :
    (fOpenV D f m (kind : Int) ts).1.many = D.many ∧
    ((∃ nx, k ≤ nx ∧ nx ≤ rows.length ∧ (fOpenV D f m (kind : Int) ts).2 = (nx, 0) ∧ Rest (fOpenV D f m (kind : Int) ts).1 (wipeN N f nx m) ∧ Jrn (wipeN N f nx m) f m kind (loadsOf ts (rows.take nx)) ∧ (D.cut = -1 → (fOpenV D f m (kind : Int) ts).1.cut = -1)) ∨
    ((fOpenV D f m (kind : Int) ts).2 = (0, 50) ∧ (fOpenV D f m (kind : Int) ts).1.off = true ∧ D.cut ≠ -1 ∧ Safe (fOpenV D f m (kind : Int) ts).1 P)) := by
  obtain ⟨nx, f1, f2, f3, f4, f5, f6⟩ := found (N := N) (f := f) (all := loadsOf ts rows) (k := k) (m := m) (kind := kind) (loadsOf_len hr) (by rw [loadsOf_length]; exact hk) (by rw [loadsOf_length]; exact hle) k1 k2 hm hj
  rw [loadsOf_length] at f2
  rw [loadsOf_take] at f6
  obtain ⟨a1, a2⟩ := h.jopen (kind := (kind : Int)) (by omega) (by omega) hfm hN f3 f4 f5 (fun n q1 q2 => hz n (by omega) q2)
  have hun : fOpenV D f m (kind : Int) ts = if rightB ts = false then (D, 0, 2)
    else if (jOpenV D f m (kind : Int)).2.2 ≠ 0 then ((jOpenV D f m (kind : Int)).1, 0, (jOpenV D f m (kind : Int)).2.2)
    else if (fAllK (jOpenV D f m (kind : Int)).1 f m (kind : Int) (jOpenV D f m (kind : Int)).2.1 ts (jOpenV D f m (kind : Int)).2.1).2 ≠ 0 then ((fAllK (jOpenV D f m (kind : Int)).1 f m (kind : Int) (jOpenV D f m (kind : Int)).2.1 ts (jOpenV D f m (kind : Int)).2.1).1, 0, (fAllK (jOpenV D f m (kind : Int)).1 f m (kind : Int) (jOpenV D f m (kind : Int)).2.1 ts (jOpenV D f m (kind : Int)).2.1).2)
    else ((fAllK (jOpenV D f m (kind : Int)).1 f m (kind : Int) (jOpenV D f m (kind : Int)).2.1 ts (jOpenV D f m (kind : Int)).2.1).1, (jOpenV D f m (kind : Int)).2.1, 0) := rfl
  generalize jOpenV D f m (kind : Int) = R at *
  generalize fOpenV D f m (kind : Int) ts = S at *
  obtain ⟨D1, n1, er⟩ := R
  simp only at a1 a2 hun
  rw [if_neg (by rw [hr]; simp)] at hun
  rcases a2 with ⟨c1, c2, c3⟩ | ⟨c1, c2, c3, c4⟩
  · injection c1 with q1 q2
    subst q1 q2
    rw [if_neg (by simp)] at hun
    have hlen : (rows.take n1).length = n1 := by rw [List.length_take]; omega
    have hall := fall_ok (D := D1) (N := wipeN N f n1 m) (f := f) (m := m) (kind := kind) (ts := ts) (rows := rows.take n1) c2.fit.off c2.now (hR.take_ n1) f6 (by omega) k1 k2 hm n1 (by omega)
    rw [hlen] at hall
    obtain ⟨o, ho⟩ := rdK_ops D1 n1
    rw [hall, if_neg (by simp)] at hun
    simp only at hun
    rw [hun]
    refine ⟨by rw [ho]; exact a1, .inl ⟨n1, f1, f2, rfl, ?_, f6, fun q => ?_⟩⟩
    · rw [ho]; exact c2.ops o
    · rw [ho]; exact c3 q
  · injection c1 with q1 q2
    subst q1 q2
    rw [if_pos (by simp)] at hun
    rw [hun]
    exact ⟨a1, .inr ⟨rfl, c2, c3, c4⟩⟩
end
end Go.Proofs.Ytalmdccgpigppaa
namespace Go.Proofs.Ytalmdccgpigppaa
open Go.RowKit
set_option linter.unusedVariables false
set_option linter.unusedSimpArgs false
def FSay (kind k : Nat) (all : List (List UInt8)) : Says := fun s S => 1 ≤ s → s < 9 → SecA kind k all (s - 1) S
/-- The rows, all flushed. -/
structure FdOn (D : DiskV) (ts : List Int) (rows : List (List Int)) : Prop where
  many : D.many = 10
  right : rightB ts = true
  ok : RowsOk ts rows
  le : rows.length ≤ 8
  rest : ∃ N, Rest D N ∧ Jrn N 1 8 3 (loadsOf ts rows)
/-- Whatever is kept. -/
structure FdX (D : DiskV) (ts : List Int) (sure all : List (List Int)) : Prop where
  many : D.many = 10
  right : rightB ts = true
  ok : RowsOk ts all
  le : all.length ≤ 8
  pre : all.take sure.length = sure
  len : sure.length ≤ all.length
  safe : Safe D (FSay 3 sure.length (loadsOf ts all))
/-- Behind a crash. -/
structure FdC (D : DiskV) (ts : List Int) (sure all : List (List Int)) : Prop where
  many : D.many = 10
  right : rightB ts = true
  ok : RowsOk ts all
  le : all.length ≤ 8
  pre : all.take sure.length = sure
  len : sure.length ≤ all.length
  cut : D.cut = -1
  rest : ∃ N, Rest D N ∧ ∀ n, n < 8 → SecJ 3 sure.length (loadsOf ts all) n (N (1 + n))
section
variable {D : DiskV} {ts l : List Int} {sure all rows : List (List Int)}
theorem FdOn.waits (h : FdOn D ts rows) : D.waits.length = 0 := by
  obtain ⟨N, h1, _⟩ := h.rest; rw [h1.waits]; rfl
theorem FdC.waits (h : FdC D ts sure all) : D.waits.length = 0 := by
  obtain ⟨N, h1, _⟩ := h.rest; rw [h1.waits]; rfl
theorem FdOn.off (h : FdOn D ts rows) : D.off = false := by
  obtain ⟨N, h1, _⟩ := h.rest; exact h1.fit.off
theorem FdOn.cutTo (h : FdOn D ts rows) (c : Int) (h0 : -1 ≤ c) (h1 : c ≤ 9223372036854775807) : FdOn { D with cut := c } ts rows := by
  obtain ⟨N, r1, r2⟩ := h.rest
  exact ⟨h.many, h.right, h.ok, h.le, N, r1.cutTo c h0 h1, r2⟩
theorem FdOn.ops (h : FdOn D ts rows) (o : List Int) : FdOn { D with ops := o } ts rows := by
  obtain ⟨N, r1, r2⟩ := h.rest
  exact ⟨h.many, h.right, h.ok, h.le, N, r1.ops o, r2⟩
theorem FdOn.x (h : FdOn D ts rows) : FdX D ts rows rows := by
  obtain ⟨N, r1, r2⟩ := h.rest
  refine ⟨h.many, h.right, h.ok, h.le, List.take_length, Nat.le_refl _, ?_⟩
  have hp : ∀ s : Nat, s < D.many → FSay 3 rows.length (loadsOf ts rows) s (N s) := fun s hs q1 q2 => by
    have := r2.secA (more := []) (n := s - 1) (by omega)
    rw [List.append_nil, loadsOf_length, show 1 + (s - 1) = s by omega] at this
    exact this
  exact (r1.pow hp).safe
theorem FdX.crash (h : FdX D ts sure all) (cs : List UInt8) : FdC (crashV D cs) ts sure all := by
  obtain ⟨c1, c2, c3, c4⟩ := h.safe.crash cs
  refine ⟨c3.trans h.many, h.right, h.ok, h.le, h.pre, h.len, c2, _, c1, fun n hn => ?_⟩
  have := c4 (1 + n) (by rw [h.many]; omega) (by omega) (by omega)
  rw [show 1 + n - 1 = n by omega] at this
  exact this.j
theorem FdC.opened (h : FdC D ts sure all) : ∃ D2 got, fOpenV D 1 8 3 ts = (D2, got.length, 0) ∧ FdOn D2 ts got ∧ got = all.take got.length ∧ sure.length ≤ got.length ∧ got.length ≤ all.length := by
  obtain ⟨N, r1, r2⟩ := h.rest
  have hz : ∀ n, sure.length ≤ n → n < 8 → ShutAt ((fun s S => 1 ≤ s → s < 9 → SecJ 3 sure.length (loadsOf ts all) (s - 1) S : Says) (1 + n)) zerosL := fun n q1 q2 S c hc hS q _ _ => by
    rw [show 1 + n - 1 = n by omega]
    refine SecJ.wiped q1 S c hc hS ?_
    have := q (by omega) (by omega)
    rwa [show 1 + n - 1 = n by omega] at this
  obtain ⟨a1, a2⟩ := r1.fopen (P := fun s S => 1 ≤ s → s < 9 → SecJ 3 sure.length (loadsOf ts all) (s - 1) S) (f := 1) (m := 8) (kind := 3) (ts := ts) (rows := all) (k := sure.length) h.right (by rw [h.many]; omega) (by omega) (by omega) (by omega) h.ok h.len h.le r2
    (fun s hs q1 q2 => by have := r2 (s - 1) (by omega); rwa [show 1 + (s - 1) = s by omega] at this) hz
  rcases a2 with ⟨nx, b1, b2, b3, b4, b5, b6⟩ | ⟨_, _, b3, _⟩
  · have hl : (all.take nx).length = nx := by rw [List.length_take]; omega
    refine ⟨(fOpenV D 1 8 3 ts).1, all.take nx, ?_, ⟨a1.trans h.many, h.right, h.ok.take_ nx, by have := h.le; omega, _, b4, b5⟩, by rw [hl], by omega, by omega⟩
    rw [hl]
    exact Prod.ext rfl b3
  · exact absurd h.cut b3
/-- What became of Add. -/
theorem FdOn.added (h : FdOn D ts rows) (hi : IntOk l) :
    (∃ er, fAddV D 1 8 3 rows.length ts l = (D, rows.length, 0, er) ∧ (er = 41 ∨ er = 52)) ∨
    (∃ D', fAddV D 1 8 3 rows.length ts l = (D', rows.length + 1, (rows.length : Int), 0) ∧ FdOn D' ts (rows ++ [l])) ∨
    (∃ D' n', fAddV D 1 8 3 rows.length ts l = (D', n', 0, 50) ∧ FdX D' ts rows (rows ++ [l])) := by
  obtain ⟨N, r1, r2⟩ := h.rest
  have hN : ∀ s : Nat, s < D.many → FSay 3 rows.length (loadsOf ts (rows ++ [l])) s (N s) := fun s hs q1 q2 => by
    have := r2.secA (more := [rowB ts l ts.length]) (n := s - 1) (by omega)
    rw [loadsOf_length, show 1 + (s - 1) = s by omega] at this
    rw [loadsOf_app]
    exact this
  obtain ⟨a1, a2⟩ := r1.fadd (P := FSay 3 rows.length (loadsOf ts (rows ++ [l]))) (f := 1) (m := 8) (kind := 3) (l := l) (by rw [h.many]; omega) (by omega) (by omega) r2 h.ok hi hN (fun hf hlt S c hc hS q _ _ => by
    have e : 1 + rows.length - 1 = rows.length := by omega
    rw [e]
    refine SecA.sealed (Nat.le_refl _) ?_ (by have := row_len h.right l; omega) S c hc hS (by have := q (by omega) (by omega); rwa [e] at this)
    rw [loadsOf_app, List.getElem?_append_right (by rw [loadsOf_length]; omega), loadsOf_length, Nat.sub_self]
    rfl)
  have hk : ((3 : Nat) : Int) = 3 := rfl
  rw [hk] at a1 a2
  rcases a2 with ⟨e, _⟩ | ⟨e, _⟩ | ⟨e, c2, c3, c4, _⟩ | ⟨e, _, _, hf, hlt, c5⟩
  · exact .inl ⟨41, e, .inl rfl⟩
  · exact .inl ⟨52, e, .inr rfl⟩
  · refine .inr (.inl ⟨(fAddV D 1 8 3 rows.length ts l).1, Prod.ext rfl e, a1.trans h.many, h.right, c4, ?_, _, c2, c3⟩)
    have := c3.le
    rw [loadsOf_length] at this
    exact this
  · refine .inr (.inr ⟨(fAddV D 1 8 3 rows.length ts l).1, (fAddV D 1 8 3 rows.length ts l).2.1, Prod.ext rfl (Prod.ext rfl e), a1.trans h.many, h.right, h.ok.app hf hi, by rw [List.length_append, List.length_singleton]; omega, by rw [List.take_append_of_le_length (Nat.le_refl _), List.take_length], by simp, c5⟩)
theorem FdOn.get (h : FdOn D ts rows) {n : Nat} {l : List Int} (hn : rows[n]? = some l) : fGetV D 1 8 3 rows.length ts (n : Int) = (readV' D, l, 0) := by
  obtain ⟨N, r1, r2⟩ := h.rest
  exact fget_row (kind := 3) r1.fit.off r1.now h.ok r2 (by rw [h.many]; omega) (by omega) (by omega) (by omega) hn
end
end Go.Proofs.Ytalmdccgpigppaa
namespace Go.Proofs.Ytalmdccgpigppaa
open Go.RowKit

theorem intAt_inj {l m : List Int} (h : l.length = m.length) (hall : ∀ i, i < l.length → intAt l i = intAt m i) : l = m := by
  apply List.ext_getElem h
  intro i h1 h2
  have := hall i h1
  simpa [intAt, List.getD_eq_getElem?_getD, h1, h2] using this
set_option maxHeartbeats 400000 in
theorem ints_any (A B : Option Addr) (n m c d : Nat) (l k : List Int) (w : World) (ha : RI w A n l) (hb : RI w B m k) (hn : n ≤ maxLen) :
    Calls Try.prog 36 #[.slice A n c, .slice B m d] w fun e w' => e = .returned (.bool (decide (l = k))) ∧ ∃ q, w' = w.drewN q := by
  unfold maxLen at hn
  by_cases hnm : n = m
  · subst hnm
    have hlen : l.length = k.length := ha.1.trans hb.1.symm
    have hl := Lib.hid ha.1
    have hk := Lib.hid hlen
    have hnn : (((n : Nat) : Int) != (n : Int)) = false := by simp
    clear hlen
    generalize hz : decide (l = k) = z
    have Hz := Lib.hid hz; clear hz
    go_enter Try.func36, Try.ntmps36
    go_wp2
    go_loopw [5] (fun i wr => ∃ j q, j ≤ n ∧ i = .int .i64 (j : Nat) ∧ Hid (∀ i, i < j → intAt l i = intAt k i) ∧ wr = w.drewN q) (fun i _ => n - (intOf i).toNat)
    case atStart => exact ⟨0, 0, Nat.zero_le _, rfl, fun i hi => absurd hi (by omega), rfl⟩
    case round =>
      obtain ⟨j, q, hj, rfl, hall, rfl⟩ := hrel
      by_cases hlt : j < n
      · obtain ⟨b0, o0, rfl, _, hc0⟩ := ha.at_ hlt
        obtain ⟨b1, o1, rfl, _, hc1⟩ := hb.at_ hlt
        have hlt' : (j : Int) < n := by omega
        by_cases heq : intAt l j = intAt k j
        · have hE := Lib.hid heq
          have hne : ((intAt l j) != (intAt k j)) = false := by simp [heq]
          clear heq
          go_wp2
          go_quiet (fail)
          go_wp2
          go_roundw
          case rel =>
            refine ⟨j + 1, q + nq, by omega, by go_num, fun i hi => ?_, rfl⟩
            rcases Nat.lt_or_ge i j with h | h
            · exact hall.out i h
            · rw [show i = j from by omega]; exact hE.out
          case measure => simp [intOf]; omega
        · have hE := Lib.hid heq
          have hne : ((intAt l j) != (intAt k j)) = true := by
            rw [bne_iff_ne]; exact heq
          clear heq
          go_wp2
          go_quiet (fail)
          go_wp2
          go_ret
          refine ⟨ret_bool ?_, q + nq, World.drewN_drewN _ _ _⟩
          rw [← Hz.out, eq_comm, decide_eq_false_iff_not]
          rintro rfl
          exact hE.out rfl
      · go_wp2
        go_ret
        refine ⟨ret_bool ?_, _, rfl⟩
        rw [← Hz.out, eq_comm, decide_eq_true_eq]
        exact intAt_inj hk.out (fun i hi => hall.out i (by have := hl.out; omega))
  · have hne : (((n : Nat) : Int) != (m : Int)) = true := by rw [bne_iff_ne]; omega
    have hz : decide (l = k) = false := by
      rw [decide_eq_false_iff_not]; rintro rfl; exact hnm (ha.1.symm.trans hb.1)
    rw [hz]
    clear hz hnm
    go_enter Try.func36, Try.ntmps36
    go_wp2
    go_ret
    exact ⟨rfl, 0, rfl⟩
end Go.Proofs.Ytalmdccgpigppaa
namespace Go.Proofs.Ytalmdccgpigppaa
open Go.RowKit
set_option linter.unusedVariables false
set_option linter.unusedSimpArgs false
theorem elemRows : ElemOf Try.prog 63 54 (.slice none 0 0) 1 24 := ElemOf.mk' Try.underlying63 (by kernel_rfl) rfl (by decide)
/-- A list of rows that reads as one. -/
def RowsRd (w : World) (B : Option Addr) (N : Nat) (Ls : List (List Int)) : Prop := Ls.length = N ∧ ∃ hs : List SlV, Rd slV w B N hs ∧ ∀ (k : Nat) (h : SlV) (L : List Int), hs[k]? = some h → Ls[k]? = some L → RI w h.a h.n L ∧ h.n ≤ maxLen
/-- A list of rows that may be appended to: its own, or one without room. -/
def RowsIn (w : World) (base lim : Nat) (B : Option Addr) (N c : Nat) (Ls : List (List Int)) : Prop :=
  Ls.length = N ∧ N ≤ c ∧ c ≤ maxLen ∧ ∃ hs : List SlV, (∀ (k : Nat) (h : SlV) (L : List Int), hs[k]? = some h → Ls[k]? = some L → IntsAt w base h.a h.n L) ∧
    (Ow slV w lim 54 B N c hs ∨ (c = N ∧ Rd slV w B N hs ∧ (0 < N → Rests w base 54 B)))
section
variable {M : List TypeId} {w w' : World} {base lim N c : Nat} {B : Option Addr} {p : DiskP} {D : DiskV} {Ls : List (List Int)}
theorem RowsIn.nil (w : World) (base lim : Nat) : RowsIn w base lim none 0 0 [] := ⟨rfl, Nat.le_refl _, by unfold maxLen; omega, [], fun k h L h1 => by simp at h1, .inl (Ow.nil _ _ _ _)⟩
theorem RowsIn.len (H : RowsIn w base lim B N c Ls) : Ls.length = N ∧ N ≤ c ∧ c ≤ maxLen := ⟨H.1, H.2.1, H.2.2.1⟩
theorem RowsIn.rd (H : RowsIn w base lim B N c Ls) : RowsRd w B N Ls := by
  obtain ⟨a1, a2, a3, hs, hi, ho⟩ := H
  refine ⟨a1, hs, ?_, fun k h L q1 q2 => ⟨(hi k h L q1 q2).1, (hi k h L q1 q2).2.1⟩⟩
  rcases ho with ho | ho
  · exact ho.rd
  · exact ho.2.1
theorem RowsRd.below {B0 : Nat} (h : RowsRd w B N Ls) (hb : Below B0 w w') (hB : w.heap.size ≤ B0) : RowsRd w' B N Ls := by
  obtain ⟨hl, hs, ho, hk⟩ := h
  exact ⟨hl, hs, ho.below hb hB, fun k x L h1 h2 => ⟨(hk k x L h1 h2).1.below hb hB, (hk k x L h1 h2).2⟩⟩
theorem RowsRd.take_ {m : Nat} (h : RowsRd w B N Ls) (hm : m ≤ N) : RowsRd w B m (Ls.take m) := by
  obtain ⟨hl, hs, ho, hk⟩ := h
  refine ⟨by rw [List.length_take]; omega, hs.take m, ho.take_ hm, fun k x L h1 h2 => ?_⟩
  rw [List.getElem?_take] at h1 h2
  split at h1
  · rename_i q; rw [if_pos q] at h2; exact hk k x L h1 h2
  · cases h1
theorem RowsIn.step (H : RowsIn w base lim B N c Ls) (hd : DiskS w base p D) (k : Step M base p w w') (h1 : 54 ∉ 4 :: M) (h2 : 3 ∉ 4 :: M) : RowsIn w' base lim B N c Ls := by
  obtain ⟨a1, a2, a3, hs, hi, ho⟩ := H
  refine ⟨a1, a2, a3, hs, fun k' h L q1 q2 => (hi k' h L q1 q2).step hd k h2, ?_⟩
  rcases ho with ho | ⟨e, ho, hr⟩
  · exact .inl (hd.ow ho k.tch h1)
  · exact .inr ⟨e, ⟨ho.1, ho.2.stepR hr hd k h1⟩, fun h0 => (hr h0).step hd k h1⟩
theorem RowsIn.below (H : RowsIn w base lim B N c Ls) (hb : Below w.heap.size w w') : RowsIn w' base lim B N c Ls := by
  obtain ⟨a1, a2, a3, hs, hi, ho⟩ := H
  refine ⟨a1, a2, a3, hs, fun k' h L q1 q2 => (hi k' h L q1 q2).below hb, ?_⟩
  rcases ho with ho | ⟨e, ho, hr⟩
  · exact .inl (ho.below hb (Nat.le_refl _))
  · refine .inr ⟨e, ho.below hb (Nat.le_refl _), fun h0 g hg => ?_⟩
    rcases hr h0 g hg with q | ⟨cs, q⟩
    · exact .inl q
    · exact .inr ⟨cs, q.below hb q.lt⟩
/-- The first rows, without room. -/
theorem RowsIn.cut (H : RowsIn w base lim B N c Ls) {m : Nat} (hm : m ≤ N) : RowsIn w base lim B m m (Ls.take m) := by
  obtain ⟨a1, a2, a3, hs, hi, ho⟩ := H
  refine ⟨by rw [List.length_take]; omega, Nat.le_refl _, by omega, hs.take m, fun k x L h1 h2 => ?_, .inr ⟨rfl, ?_, fun h0 => ?_⟩⟩
  · rw [List.getElem?_take] at h1 h2
    split at h1
    · rename_i q; rw [if_pos q] at h2; exact hi k x L h1 h2
    · cases h1
  · rcases ho with ho | ho
    · exact ho.rd.take_ hm
    · exact ho.2.1.take_ hm
  · rcases ho with ho | ho
    · exact fun g hg => .inr (ho.blk hg)
    · exact ho.2.2 (by omega)
theorem Step.of_app {α : Type} {enc : α → Value} {e : TypeId} {n : Nat} {l : List α} (ho : Ow enc w base e B n c l) (hg : w.grownBy w' (B.map (·.block))) (hs : base ≤ w.heap.size) : Step [e] base p w w' := by
  cases B with
  | none =>
    have hb : Below w.heap.size w w' := (Below.refl _ _).grown hg (Nat.le_refl _) (fun k hk => by cases hk)
    exact Step.of_below hb hs
  | some a =>
    obtain ⟨cs, hb⟩ := ho.blk (g := a.block) rfl
    have := ho.lt a.block rfl
    exact Step.one hg hb (by simp) this.1 hs
theorem Step.lower (h : Step M lim p w w') (hb : base ≤ lim) : Step M base p w w' := ⟨h.bel.mono hb, h.tch⟩
/-- One row more. -/
theorem wpList_row {ops : Array Oper} {rest : List Oper} {o : Oper} {a : Act} {Q : Exit → Act → World → Prop} {s x : Operand} {h : SlV} {L : List Int} {g : Nat} (hgd : o.guard = none)
    (ho : o.op = .call { callee := .builtin .append, args := #[s, x], argTypes := #[63, 63] })
    (hs : a.eval s = .slice B N c) (H : RowsIn w base lim B N c Ls)
    (hx : a.eval x = .slice (some ⟨g, 0, none⟩) 1 1) (hr : Rd slV w (some ⟨g, 0, none⟩) 1 [h]) (hL : IntsAt w base h.a h.n L)
    (hd : DiskS w base p D) (h63 : N ≤ 1000000) (hbl : base ≤ lim) (hbase : lim ≤ w.heap.size)
    (hK : ∀ A' c' w', RowsIn w' base lim A' (N + 1) c' (Ls ++ [L]) → Step [54] lim p w w' → DiskS w' base p D → w.heap.size ≤ w'.heap.size → wpList Try.prog ops Q rest (a.put o.dst (.slice A' (N + 1) c')) w') :
    wpList Try.prog ops Q (o :: rest) a w := by
  obtain ⟨a1, a2, a3, hds, hi, hcase⟩ := H
  have hinew : ∀ {w' : World} {A' : Option Addr} {c' : Nat}, Ow slV w' lim 54 A' (N + 1) c' (hds ++ [h]) → (∀ (q : Option Addr) (n : Nat) (l : List Int), IntsAt w base q n l → IntsAt w' base q n l) → hds.length = N → RowsIn w' base lim A' (N + 1) c' (Ls ++ [L]) := fun hw hmv hhl => by
    have hc := hw.cap
    refine ⟨by simp [a1], hc.1, hc.2, hds ++ [h], fun k y Y q1 q2 => ?_, .inl hw⟩
    rcases Nat.lt_or_ge k N with hk | hk
    · rw [List.getElem?_append_left (by omega)] at q1 q2
      exact hmv _ _ _ (hi k y Y q1 q2)
    · have hk9 : k = N := by
        have := (List.getElem?_eq_some_iff.1 q1).1
        rw [List.length_append, hhl, List.length_singleton] at this
        omega
      subst hk9
      rw [List.getElem?_append_right (by omega), hhl, Nat.sub_self] at q1
      rw [List.getElem?_append_right (by omega), a1, Nat.sub_self] at q2
      simp only [List.getElem?_cons_zero, Option.some.injEq] at q1 q2
      subst q1 q2
      exact hmv _ _ _ hL
  rcases hcase with hown | ⟨hcN, hrd, hrest⟩
  · refine wpList_app hgd ho elemRows slV_one hs hown hx hr rfl rfl (by unfold maxLen; omega) (by omega) hbase fun A' c' w' h1 h2 h3 h4 => ?_
    have st := Step.of_app (p := p) hown h2 hbase
    have hd' := hd.grown hown h2 (by decide)
    exact hK A' c' w' (hinew h1 (fun q n l hq => hq.step hd (st.lower hbl) (by decide)) hown.1) st hd' st.size
  · subst hcN
    obtain ⟨ht, ⟨i, hi', hz, hsize, hby⟩, hzs, hsz⟩ := elemRows
    refine wpList_append_grows w hgd s x 63 ho 54 i _ 1 24 ht hi' hz hsize hby hzs hsz
      B c c (hds.map slV) hs (fun hB => ?_) (by rw [List.length_map, hrd.1]; omega) (fun b hb j u hj => ?_) ⟨g, 0, none⟩ 1 1 [slV h] hx rfl (fun j u hj => ?_) (by intro u hu; rw [List.mem_singleton] at hu; subst hu; rfl) (by omega) (by unfold maxLen; omega) (by omega) fun v' w' h1 h2 => ?_
    · have : c = 0 := by
        rcases Nat.eq_zero_or_pos c with h0 | h0
        · exact h0
        · obtain ⟨b, o', e, _⟩ := hrd.2 h0
          rw [hB] at e; cases e
      exact ⟨this, this⟩
    · have hjl : j < c := by
        have := (List.getElem?_eq_some_iff.1 hj).1
        rw [List.length_map, hrd.1] at this; exact this
      exact hrd.rowL.at_add hb j u hj
    · exact hr.rowL.at_add rfl j u (by simpa using hj)
    · have hb : Below w.heap.size w w' := (Below.refl _ _).grown h2 (Nat.le_refl _) (fun k hk => by cases hk)
      obtain ⟨A', c', rfl, hc1, hc2⟩ := own_slice h1
      have how : Ow slV w' w.heap.size 54 A' (c + 1) c' (hds ++ [h]) := ⟨by rw [List.length_append, hrd.1]; rfl, by rw [List.map_append]; exact h1⟩
      exact hK A' c' w' (hinew (how.rebase hbase) (fun q n l hq => hq.below hb) hrd.1) (Step.of_below hb hbase) (hd.below hb) hb.size
theorem RowsIn.lower {l0 : Nat} (H : RowsIn w base lim B N c Ls) (hb : l0 ≤ lim) : RowsIn w base l0 B N c Ls := by
  obtain ⟨a1, a2, a3, hs, hi, ho⟩ := H
  refine ⟨a1, a2, a3, hs, hi, ?_⟩
  rcases ho with ho | ho
  · exact .inl (ho.rebase hb)
  · exact .inr ho
/-- A list of rows that is only read; its headers lie below lim. -/
def RowsFix (w : World) (base lim : Nat) (B : Option Addr) (N : Nat) (Ls : List (List Int)) : Prop :=
  Ls.length = N ∧ N ≤ maxLen ∧ ∃ hs : List SlV, (∀ (k : Nat) (h : SlV) (L : List Int), hs[k]? = some h → Ls[k]? = some L → IntsAt w base h.a h.n L) ∧ Rd slV w B N hs ∧ (0 < N → Rests w base 54 B) ∧ (0 < N → ∀ g, B.map (·.block) = some g → g < lim)
theorem RowsIn.fix (H : RowsIn w base lim B N c Ls) : RowsFix w base w.heap.size B N Ls := by
  obtain ⟨a1, a2, a3, hs, hi, ho⟩ := H
  have hlt : ∀ {hs : List SlV}, Rd slV w B N hs → 0 < N → ∀ g, B.map (·.block) = some g → g < w.heap.size := fun h h0 g hg => by
    obtain ⟨b, o, e, q, _⟩ := h.2 h0
    rw [e] at hg
    simp only [Option.map_some, Option.some.injEq] at hg
    omega
  rcases ho with ho | ⟨e, ho, hr⟩
  · exact ⟨a1, by omega, hs, hi, ho.rd, fun _ g hg => .inr (ho.blk hg), hlt ho.rd⟩
  · exact ⟨a1, by omega, hs, hi, ho, hr, hlt ho⟩
theorem RowsFix.rd (H : RowsFix w base lim B N Ls) : RowsRd w B N Ls := by
  obtain ⟨a1, a2, hs, hi, ho, _⟩ := H
  exact ⟨a1, hs, ho, fun k h L q1 q2 => ⟨(hi k h L q1 q2).1, (hi k h L q1 q2).2.1⟩⟩
theorem RowsFix.step (H : RowsFix w base lim B N Ls) (hd : DiskS w base p D) (k : Step M base p w w') (h1 : 54 ∉ 4 :: M) (h2 : 3 ∉ 4 :: M) : RowsFix w' base lim B N Ls := by
  obtain ⟨a1, a2, hs, hi, ho, hr, hl⟩ := H
  exact ⟨a1, a2, hs, fun k' h L q1 q2 => (hi k' h L q1 q2).step hd k h2, ⟨ho.1, ho.2.stepR hr hd k h1⟩, fun h0 => (hr h0).step hd k h1, hl⟩
theorem RowsFix.below (H : RowsFix w base lim B N Ls) (hb : Below w.heap.size w w') : RowsFix w' base lim B N Ls := by
  obtain ⟨a1, a2, hs, hi, ho, hr, hl⟩ := H
  refine ⟨a1, a2, hs, fun k' h L q1 q2 => (hi k' h L q1 q2).below hb, ho.below hb (Nat.le_refl _), fun h0 g hg => ?_, hl⟩
  rcases hr h0 g hg with q | ⟨cs, q⟩
  · exact .inl q
  · exact .inr ⟨cs, q.below hb q.lt⟩
/-- Where another list has grown. -/
theorem RowsFix.app (H : RowsFix w base lim B N Ls) (hd : DiskS w base p D) (k : Step [54] lim p w w') (hb : base ≤ lim) : RowsFix w' base lim B N Ls := by
  obtain ⟨a1, a2, hs, hi, ho, hr, hl⟩ := H
  refine ⟨a1, a2, hs, fun k' h L q1 q2 => (hi k' h L q1 q2).step hd (k.lower hb) (by decide), ⟨ho.1, fun h0 => (ho.2.sameB k.size (fun b hg _ => k.bel.block b (hl h0 b hg))) h0⟩, fun h0 g hg => ?_, hl⟩
  rcases hr h0 g hg with q | ⟨cs, q⟩
  · exact .inl q
  · exact .inr ⟨cs, q.below k.bel (hl h0 g hg)⟩
/-- A row of rows is copied. -/
theorem RowsIn.copied {A' : Option Addr} {c' : Nat} {hs : List SlV} (hl : Ls.length = N) (hi : ∀ (k : Nat) (h : SlV) (L : List Int), hs[k]? = some h → Ls[k]? = some L → IntsAt w base h.a h.n L) (ho : Ow slV w lim 54 A' N c' hs) : RowsIn w base lim A' N c' Ls :=
  ⟨hl, ho.cap.1, ho.cap.2, hs, hi, .inl ho⟩
end
end Go.Proofs.Ytalmdccgpigppaa
namespace Go.Proofs.Ytalmdccgpigppaa
open Go.RowKit
set_option linter.unusedVariables false
set_option linter.unusedSimpArgs false
set_option maxHeartbeats 400000 in
theorem psame_any (A B : Option Addr) (n m c d : Nat) (l k : List Int) (w : World) (ha : RI w A n l) (hb : RI w B m k) (hn : n ≤ maxLen) :
    Calls Try.prog 69 #[.slice A n c, .slice B m d] w fun e w' => e = .returned (.bool (decide (l = k))) ∧ ∃ q, w' = w.drewN q := by
  unfold maxLen at hn
  by_cases hnm : n = m
  · subst hnm
    have hlen : l.length = k.length := ha.1.trans hb.1.symm
    have hl := Lib.hid ha.1
    have hk := Lib.hid hlen
    have hnn : (((n : Nat) : Int) != (n : Int)) = false := by simp
    clear hlen
    generalize hz : decide (l = k) = z
    have Hz := Lib.hid hz; clear hz
    go_enter Try.func69, Try.ntmps69
    go_wp2
    go_loopw [5] (fun i wr => ∃ j q, j ≤ n ∧ i = .int .i64 (j : Nat) ∧ Hid (∀ i, i < j → intAt l i = intAt k i) ∧ wr = w.drewN q) (fun i _ => n - (intOf i).toNat)
    case atStart => exact ⟨0, 0, Nat.zero_le _, rfl, fun i hi => absurd hi (by omega), rfl⟩
    case round =>
      obtain ⟨j, q, hj, rfl, hall, rfl⟩ := hrel
      by_cases hlt : j < n
      · obtain ⟨b0, o0, rfl, _, hc0⟩ := ha.at_ hlt
        obtain ⟨b1, o1, rfl, _, hc1⟩ := hb.at_ hlt
        have hlt' : (j : Int) < n := by omega
        by_cases heq : intAt l j = intAt k j
        · have hE := Lib.hid heq
          have hne : ((intAt l j) != (intAt k j)) = false := by simp [heq]
          clear heq
          go_wp2
          go_quiet (fail)
          go_wp2
          go_roundw
          case rel =>
            refine ⟨j + 1, q + nq, by omega, by go_num, fun i hi => ?_, rfl⟩
            rcases Nat.lt_or_ge i j with h | h
            · exact hall.out i h
            · rw [show i = j from by omega]; exact hE.out
          case measure => simp [intOf]; omega
        · have hE := Lib.hid heq
          have hne : ((intAt l j) != (intAt k j)) = true := by
            rw [bne_iff_ne]; exact heq
          clear heq
          go_wp2
          go_quiet (fail)
          go_wp2
          go_ret
          refine ⟨ret_bool ?_, q + nq, World.drewN_drewN _ _ _⟩
          rw [← Hz.out, eq_comm, decide_eq_false_iff_not]
          rintro rfl
          exact hE.out rfl
      · go_wp2
        go_ret
        refine ⟨ret_bool ?_, _, rfl⟩
        rw [← Hz.out, eq_comm, decide_eq_true_eq]
        exact intAt_inj hk.out (fun i hi => hall.out i (by have := hl.out; omega))
  · have hne : (((n : Nat) : Int) != (m : Int)) = true := by rw [bne_iff_ne]; omega
    have hz : decide (l = k) = false := by
      rw [decide_eq_false_iff_not]; rintro rfl; exact hnm (ha.1.symm.trans hb.1)
    rw [hz]
    clear hz hnm
    go_enter Try.func69, Try.ntmps69
    go_wp2
    go_ret
    exact ⟨rfl, 0, rfl⟩
set_option maxRecDepth 100000 in
set_option maxHeartbeats 4000000 in
theorem rowssame_any (B C : Option Addr) (n m c d : Nat) (l a : List (List Int)) (w : World) (hl : RowsRd w B n l) (ha : RowsRd w C m a) (hn : n ≤ maxLen) (hm : m ≤ maxLen) :
    Calls Try.prog 28 #[.slice B n c, .slice C m d] w fun e w' => e = .returned (.bool (decide (l = a))) ∧ Below w.heap.size w w' := by
  have hln := hl.1
  have han := ha.1
  unfold maxLen at hn hm
  by_cases hnm : n = m
  · subst hnm
    go_enter Try.func28, Try.ntmps28
    go_wp2
    go_loopw [5] (fun i wr => ∃ k : Nat, k ≤ n ∧ i = .int .i64 (k : Nat) ∧ l.take k = a.take k ∧ Below w.heap.size w wr) (fun i _ => n - (intOf i).toNat)
    case atStart => exact ⟨0, by omega, rfl, rfl, Below.refl _ _⟩
    case round =>
      obtain ⟨k, hk, rfl, htk, hbel⟩ := hrel
      by_cases hlt : k < n
      · obtain ⟨_, hs, hrd, hcell⟩ := hl.below hbel (Nat.le_refl _)
        obtain ⟨_, ks, krd, kcell⟩ := ha.below hbel (Nat.le_refl _)
        have hsl : k < hs.length := by rw [hrd.1]; exact hlt
        have ksl : k < ks.length := by rw [krd.1]; omega
        have hll : k < l.length := by omega
        have hal : k < a.length := by omega
        obtain ⟨r1, x1⟩ := hcell k _ _ (List.getElem?_eq_getElem hsl) (List.getElem?_eq_getElem hll)
        obtain ⟨r2, x2⟩ := kcell k _ _ (List.getElem?_eq_getElem ksl) (List.getElem?_eq_getElem hal)
        obtain ⟨b1, o1, hB1, hb1, c1⟩ := hrd.2.at_ hlt
        obtain ⟨b2, o2, hB2, hb2, c2⟩ := krd.2.at_ (show k < n by omega)
        rw [getD_map hs k hsl] at c1
        rw [getD_map ks k ksl] at c2
        have e1 : Hid (l.take (k + 1) = l.take k ++ [l[k]]) := List.take_succ_eq_append_getElem hll
        have e2 : Hid (a.take (k + 1) = a.take k ++ [a[k]]) := List.take_succ_eq_append_getElem hal
        have e3 : Hid (l[k]? = some l[k]) := List.getElem?_eq_getElem hll
        have e4 : Hid (a[k]? = some a[k]) := List.getElem?_eq_getElem hal
        generalize hs[k] = h1 at *
        generalize ks[k] = h2 at *
        generalize l[k] = L1 at *
        generalize a[k] = L2 at *
        obtain ⟨A1, n1, d1⟩ := h1
        obtain ⟨A2, n2, d2⟩ := h2
        simp only [slV] at c1 c2 r1 x1 r2 x2
        have hsame := psame_any A1 A2 n1 n2 d1 d2 L1 L2 wr.drew r1 r2 x1
        have HT := Lib.hid htk
        have HL := Lib.hid hlt
        clear hcell kcell hrd krd htk
        subst hB1 hB2
        by_cases hee : L1 = L2
        · have hbn : decide (L1 = L2) = true := decide_eq_true hee
          rw [hbn] at hsame
          go_wp2
          go_region_held3 (fun w' => w'.cell? ⟨b1, o1 + k, none⟩ = some (.slice A1 n1 d1) ∧ w'.cell? ⟨b2, o2 + k, none⟩ = some (.slice A2 n2 d2)) (first | go_keep | (refine ⟨?_, ?_⟩ <;> assumption)) (first
            | (go_at_call 69; (with_reducible refine (hsame).mono ?_); rintro e w2 ⟨rfl, q2, rfl⟩)
            | fail "no arm")
          have hnx : Hid (l.take (k + 1) = a.take (k + 1)) := by show _ = _; rw [e1.out, e2.out, HT.out, hee]
          clear hee
          go_wp2
          go_roundw
          case rel => first
            | exact ⟨k + 1, by omega, by go_num, hnx.out, below_drewN hbel _⟩
            | ((repeat apply Exists.intro); exact ⟨⟨k + 1, by omega, by go_num, hnx.out, below_drewN hbel _⟩, rfl⟩)
          case measure => simp [intOf]; omega
        · have hbn : decide (L1 = L2) = false := decide_eq_false hee
          have hno : Hid (decide (l = a) = false) := by
            show decide (l = a) = false
            rw [decide_eq_false_iff_not]
            intro e
            have h0 : l[k]? = a[k]? := by rw [e]
            rw [e3.out, e4.out] at h0
            injection h0 with h0
            exact hee h0
          rw [hbn] at hsame
          clear hee
          go_wp2
          go_region_held3 (fun w' => w'.cell? ⟨b1, o1 + k, none⟩ = some (.slice A1 n1 d1) ∧ w'.cell? ⟨b2, o2 + k, none⟩ = some (.slice A2 n2 d2)) (first | go_keep | (refine ⟨?_, ?_⟩ <;> assumption)) (first
            | (go_at_call 69; (with_reducible refine (hsame).mono ?_); rintro e w2 ⟨rfl, q2, rfl⟩)
            | fail "no arm")
          go_wp2
          go_ret
          exact ⟨ret_bool hno.out.symm, below_drewN hbel _⟩
      · have hk9 : k = n := by omega
        have hyes : Hid (decide (l = a) = true) := by
          show decide (l = a) = true
          rw [decide_eq_true_iff]
          rw [List.take_of_length_le (by omega), List.take_of_length_le (by omega)] at htk
          exact htk
        subst hk9
        clear htk
        go_wp2
        go_ret
        exact ⟨ret_bool hyes.out.symm, hbel⟩
  · have hno : Hid (decide (l = a) = false) := by
      show decide (l = a) = false
      rw [decide_eq_false_iff_not]
      rintro rfl
      exact hnm (hln.symm.trans han)
    have hne : (((n : Nat) : Int) != (m : Int)) = true := by rw [bne_iff_ne]; omega
    clear hl ha
    go_enter Try.func28, Try.ntmps28
    go_wp2
    go_ret
    exact ⟨ret_bool hno.out.symm, Below.refl _ _⟩
end Go.Proofs.Ytalmdccgpigppaa
