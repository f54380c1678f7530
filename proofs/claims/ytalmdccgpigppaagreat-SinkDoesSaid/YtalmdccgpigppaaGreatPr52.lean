/- Parts: PlainFeedC, PlainFeedD, PlainSinkC. -/
import Derived.Test.YtalmdccgpigppaaGreatPr51
namespace Go.Proofs.YtalmdccgpigppaaGreat
open Go.RowKit
set_option linter.unusedVariables false
set_option linter.unusedSimpArgs false
def FSay (kind k : Nat) (all : List (List UInt8)) : Says := fun s S => 1 ≤ s → s < 9 → SecA kind k all (s - 1) S
/-- The rows, all flushed. -/
structure FdOn (D : DiskV) (ts : List Int) (rows : List (List Int)) : Prop where
  many : D.many = 10
  right : rightB ts = true
  ok : RowsOk ts rows
  le : rows.length ≤ 8
  rest : ∃ N, Rest D N ∧ Jrn N 1 8 3 (loadsOf ts rows)
/-- Whatever is kept. -/
structure FdX (D : DiskV) (ts : List Int) (sure all : List (List Int)) : Prop where
  many : D.many = 10
  right : rightB ts = true
  ok : RowsOk ts all
  le : all.length ≤ 8
  pre : all.take sure.length = sure
  len : sure.length ≤ all.length
  safe : Safe D (FSay 3 sure.length (loadsOf ts all))
/-- Behind a crash. -/
structure FdC (D : DiskV) (ts : List Int) (sure all : List (List Int)) : Prop where
  many : D.many = 10
  right : rightB ts = true
  ok : RowsOk ts all
  le : all.length ≤ 8
  pre : all.take sure.length = sure
  len : sure.length ≤ all.length
  cut : D.cut = -1
  rest : ∃ N, Rest D N ∧ ∀ n, n < 8 → SecJ 3 sure.length (loadsOf ts all) n (N (1 + n))
section
variable {D : DiskV} {ts l : List Int} {sure all rows : List (List Int)}
theorem FdOn.waits (h : FdOn D ts rows) : D.waits.length = 0 := by
  obtain ⟨N, h1, _⟩ := h.rest; rw [h1.waits]; rfl
theorem FdC.waits (h : FdC D ts sure all) : D.waits.length = 0 := by
  obtain ⟨N, h1, _⟩ := h.rest; rw [h1.waits]; rfl
theorem FdOn.off (h : FdOn D ts rows) : D.off = false := by
  obtain ⟨N, h1, _⟩ := h.rest; exact h1.fit.off
theorem FdOn.ops (h : FdOn D ts rows) (o : List Int) : FdOn { D with ops := o } ts rows := by
  obtain ⟨N, r1, r2⟩ := h.rest
  exact ⟨h.many, h.right, h.ok, h.le, N, r1.ops o, r2⟩
theorem FdOn.x (h : FdOn D ts rows) : FdX D ts rows rows := by
  obtain ⟨N, r1, r2⟩ := h.rest
  refine ⟨h.many, h.right, h.ok, h.le, List.take_length, Nat.le_refl _, ?_⟩
  have hp : ∀ s : Nat, s < D.many → FSay 3 rows.length (loadsOf ts rows) s (N s) := fun s hs q1 q2 => by
    have := r2.secA (more := []) (n := s - 1) (by omega)
    rw [List.append_nil, loadsOf_length, show 1 + (s - 1) = s by omega] at this
    exact this
  exact (r1.pow hp).safe
theorem FdX.crash (h : FdX D ts sure all) (cs : List UInt8) : FdC (crashV D cs) ts sure all := by
  obtain ⟨c1, c2, c3, c4⟩ := h.safe.crash cs
  refine ⟨c3.trans h.many, h.right, h.ok, h.le, h.pre, h.len, c2, _, c1, fun n hn => ?_⟩
  have := c4 (1 + n) (by rw [h.many]; omega) (by omega) (by omega)
  rw [show 1 + n - 1 = n by omega] at this
  exact this.j
theorem FdC.opened (h : FdC D ts sure all) : ∃ D2 got, fOpenV D 1 8 3 ts = (D2, got.length, 0) ∧ FdOn D2 ts got ∧ got = all.take got.length ∧ sure.length ≤ got.length ∧ got.length ≤ all.length := by
  obtain ⟨N, r1, r2⟩ := h.rest
  have hz : ∀ n, sure.length ≤ n → n < 8 → ShutAt ((fun s S => 1 ≤ s → s < 9 → SecJ 3 sure.length (loadsOf ts all) (s - 1) S : Says) (1 + n)) zerosL := fun n q1 q2 S c hc hS q _ _ => by
    rw [show 1 + n - 1 = n by omega]
    refine SecJ.wiped q1 S c hc hS ?_
    have := q (by omega) (by omega)
    rwa [show 1 + n - 1 = n by omega] at this
  obtain ⟨a1, a2⟩ := r1.fopen (P := fun s S => 1 ≤ s → s < 9 → SecJ 3 sure.length (loadsOf ts all) (s - 1) S) (f := 1) (m := 8) (kind := 3) (ts := ts) (rows := all) (k := sure.length) h.right (by rw [h.many]; omega) (by omega) (by omega) (by omega) h.ok h.len h.le r2
    (fun s hs q1 q2 => by have := r2 (s - 1) (by omega); rwa [show 1 + (s - 1) = s by omega] at this) hz
  rcases a2 with ⟨nx, b1, b2, b3, b4, b5, b6⟩ | ⟨_, _, b3, _⟩
  · have hl : (all.take nx).length = nx := by rw [List.length_take]; omega
    refine ⟨(fOpenV D 1 8 3 ts).1, all.take nx, ?_, ⟨a1.trans h.many, h.right, h.ok.take_ nx, by have := h.le; omega, _, b4, b5⟩, by rw [hl], by omega, by omega⟩
    rw [hl]
    exact Prod.ext rfl b3
  · exact absurd h.cut b3
/-- What became of Add. -/
theorem FdOn.added (h : FdOn D ts rows) (hi : IntOk l) :
    (∃ er, fAddV D 1 8 3 rows.length ts l = (D, rows.length, 0, er) ∧ (er = 41 ∨ er = 52)) ∨
    (∃ D', fAddV D 1 8 3 rows.length ts l = (D', rows.length + 1, (rows.length : Int), 0) ∧ FdOn D' ts (rows ++ [l])) ∨
    (∃ D' n', fAddV D 1 8 3 rows.length ts l = (D', n', 0, 50) ∧ FdX D' ts rows (rows ++ [l])) := by
  obtain ⟨N, r1, r2⟩ := h.rest
  have hN : ∀ s : Nat, s < D.many → FSay 3 rows.length (loadsOf ts (rows ++ [l])) s (N s) := fun s hs q1 q2 => by
    have := r2.secA (more := [rowB ts l ts.length]) (n := s - 1) (by omega)
    rw [loadsOf_length, show 1 + (s - 1) = s by omega] at this
    rw [loadsOf_app]
    exact this
  obtain ⟨a1, a2⟩ := r1.fadd (P := FSay 3 rows.length (loadsOf ts (rows ++ [l]))) (f := 1) (m := 8) (kind := 3) (l := l) (by rw [h.many]; omega) (by omega) (by omega) r2 h.ok hi hN (fun hf hlt S c hc hS q _ _ => by
    have e : 1 + rows.length - 1 = rows.length := by omega
    rw [e]
    refine SecA.sealed (Nat.le_refl _) ?_ (by have := row_len h.right l; omega) S c hc hS (by have := q (by omega) (by omega); rwa [e] at this)
    rw [loadsOf_app, List.getElem?_append_right (by rw [loadsOf_length]; omega), loadsOf_length, Nat.sub_self]
    rfl)
  have hk : ((3 : Nat) : Int) = 3 := rfl
  rw [hk] at a1 a2
  rcases a2 with ⟨e, _⟩ | ⟨e, _⟩ | ⟨e, c2, c3, c4, _⟩ | ⟨e, _, _, hf, hlt, c5⟩
  · exact .inl ⟨41, e, .inl rfl⟩
  · exact .inl ⟨52, e, .inr rfl⟩
  · refine .inr (.inl ⟨(fAddV D 1 8 3 rows.length ts l).1, Prod.ext rfl e, a1.trans h.many, h.right, c4, ?_, _, c2, c3⟩)
    have := c3.le
    rw [loadsOf_length] at this
    exact this
  · refine .inr (.inr ⟨(fAddV D 1 8 3 rows.length ts l).1, (fAddV D 1 8 3 rows.length ts l).2.1, Prod.ext rfl (Prod.ext rfl e), a1.trans h.many, h.right, h.ok.app hf hi, by rw [List.length_append, List.length_singleton]; omega, by rw [List.take_append_of_le_length (Nat.le_refl _), List.take_length], by simp, c5⟩)
theorem FdOn.get (h : FdOn D ts rows) {n : Nat} {l : List Int} (hn : rows[n]? = some l) : fGetV D 1 8 3 rows.length ts (n : Int) = (readV' D, l, 0) := by
  obtain ⟨N, r1, r2⟩ := h.rest
  exact fget_row (kind := 3) r1.fit.off r1.now h.ok r2 (by rw [h.many]; omega) (by omega) (by omega) (by omega) hn
end
end Go.Proofs.YtalmdccgpigppaaGreat
namespace Go.Proofs.YtalmdccgpigppaaGreat
open Go.RowKit
set_option linter.unusedVariables false
set_option linter.unusedSimpArgs false
def F0 : DiskV := loadD 10 10 [] 0
def F1 : DiskV := (fOpenV F0 1 8 3 [1, 2]).1
def F2 : DiskV := (fAddV F1 1 8 3 0 [1, 2] [7, 1]).1
def F3 : DiskV := (fAddV F2 1 8 3 1 [1, 2] [-8, 0]).1
def F4 : DiskV := crashV F3 []
def F5 : DiskV := (fOpenV F4 1 8 3 [1, 2]).1
theorem pair_eq {α β : Type} {a : α × β} {b : β} (h : a.2 = b) : a = (a.1, b) := by subst h; rfl
theorem f_many : F0.many = 10 ∧ F1.many = 10 ∧ F2.many = 10 ∧ F3.many = 10 ∧ F4.many = 10 ∧ F5.many = 10 := by decide +kernel
theorem f_waits : F0.waits.length = 0 ∧ F1.waits.length = 0 ∧ F2.waits.length = 0 ∧ F3.waits.length = 0 ∧ F4.waits.length = 0 ∧ F5.waits.length = 0 := by decide +kernel
end Go.Proofs.YtalmdccgpigppaaGreat
namespace Go.Proofs.YtalmdccgpigppaaGreat
open Go.RowKit
set_option linter.unusedVariables false
set_option linter.unusedSimpArgs false
/-- The rows; the first k are flushed. -/
structure SkOn (D : DiskV) (ts : List Int) (k : Nat) (rows : List (List Int)) : Prop where
  many : D.many = 10
  right : rightB ts = true
  ok : RowsOk ts rows
  le : rows.length ≤ 8
  len : k ≤ rows.length
  cut : D.cut = -1
  few : D.waits.length ≤ rows.length
  wait : ∀ p ∈ D.waits, ∃ n l, p = (1 + n, sealL 4 n l) ∧ k ≤ n ∧ (loadsOf ts rows)[n]? = some l
  pow : ∃ N, Pow D N (FSay 4 k (loadsOf ts rows)) ∧ Jrn N 1 8 4 (loadsOf ts rows)
structure SkC (D : DiskV) (ts : List Int) (k : Nat) (all : List (List Int)) : Prop where
  many : D.many = 10
  right : rightB ts = true
  ok : RowsOk ts all
  le : all.length ≤ 8
  len : k ≤ all.length
  cut : D.cut = -1
  rest : ∃ N, Rest D N ∧ ∀ n, n < 8 → SecJ 4 k (loadsOf ts all) n (N (1 + n))
theorem fsay_sealed {kind k n : Nat} {all : List (List UInt8)} {l : List UInt8} (hn : k ≤ n) (hl : all[n]? = some l) (h113 : l.length ≤ 113) : ShutAt (FSay kind k all (1 + n)) (sealL kind n l) := fun S c hc hS q q1 q2 => by
  have e : 1 + n - 1 = n := by omega
  have := q q1 q2
  rw [e] at this ⊢
  exact SecA.sealed hn hl h113 S c hc hS this
theorem SecA.more {kind k n : Nat} {all : List (List UInt8)} {S : List UInt8} (h : SecA kind k all n S) (hk : k ≤ all.length) (b : List UInt8) : SecA kind k (all ++ [b]) n S := by
  refine ⟨fun l q e => ?_, fun q => ?_⟩
  · rw [List.getElem?_append_left (by omega)] at e
    exact h.1 l q e
  · rcases h.2 q with e | ⟨l, e1, e2⟩
    · exact .inl e
    · exact .inr ⟨l, by rw [List.getElem?_append_left (List.getElem?_eq_some_iff.1 e1).1]; exact e1, e2⟩
section
variable {D : DiskV} {N : Secs} {ts l : List Int} {k : Nat} {all rows : List (List Int)}
theorem SkOn.of_rest (h0 : D.many = 10) (hr : rightB ts = true) (hR : RowsOk ts rows) (hle : rows.length ≤ 8) (hc : D.cut = -1) (r1 : Rest D N) (r2 : Jrn N 1 8 4 (loadsOf ts rows)) : SkOn D ts rows.length rows := by
  have hp : ∀ s : Nat, s < D.many → FSay 4 rows.length (loadsOf ts rows) s (N s) := fun s hs q1 q2 => by
    have := r2.secA (more := []) (n := s - 1) (by omega)
    rw [List.append_nil, loadsOf_length, show 1 + (s - 1) = s by omega] at this
    exact this
  exact ⟨h0, hr, hR, hle, Nat.le_refl _, hc, by rw [r1.waits]; simp, fun p hp => (by rw [r1.waits] at hp; cases hp), N, r1.pow hp, r2⟩
theorem SkOn.ops (h : SkOn D ts k rows) (o : List Int) : SkOn { D with ops := o } ts k rows := by
  obtain ⟨N, r1, r2⟩ := h.pow
  exact ⟨h.many, h.right, h.ok, h.le, h.len, h.cut, h.few, h.wait, N, r1.ops o, r2⟩
theorem SkOn.flush (h : SkOn D ts k rows) : ∃ D', flushV D = (D', 0) ∧ SkOn D' ts rows.length rows := by
  obtain ⟨N, r1, r2⟩ := h.pow
  obtain ⟨a1, a2⟩ := r1.flush
  rcases a2 with ⟨b1, b2, b3⟩ | ⟨_, _, b3, _⟩
  · exact ⟨(flushV D).1, Prod.ext rfl b1, SkOn.of_rest (a1.trans h.many) h.right h.ok h.le (b3 h.cut) b2 r2⟩
  · exact absurd h.cut b3
theorem SkOn.crash (h : SkOn D ts k rows) (cs : List UInt8) : SkC (crashV D cs) ts k rows := by
  obtain ⟨N, r1, r2⟩ := h.pow
  obtain ⟨c1, c2, c3, c4⟩ := r1.safe.crash cs
  refine ⟨c3.trans h.many, h.right, h.ok, h.le, h.len, c2, _, c1, fun n hn => ?_⟩
  have := c4 (1 + n) (by rw [h.many]; omega) (by omega) (by omega)
  rw [show 1 + n - 1 = n by omega] at this
  exact this.j
theorem SkC.waits (h : SkC D ts k all) : D.waits.length = 0 := by
  obtain ⟨N, h1, _⟩ := h.rest; rw [h1.waits]; rfl
theorem SkC.opened (h : SkC D ts k all) : ∃ D2 got, fOpenV D 1 8 4 ts = (D2, got.length, 0) ∧ SkOn D2 ts got.length got ∧ got = all.take got.length ∧ k ≤ got.length ∧ got.length ≤ all.length := by
  obtain ⟨N, r1, r2⟩ := h.rest
  have hz : ∀ n, k ≤ n → n < 8 → ShutAt ((fun s S => 1 ≤ s → s < 9 → SecJ 4 k (loadsOf ts all) (s - 1) S : Says) (1 + n)) zerosL := fun n q1 q2 S c hc hS q _ _ => by
    rw [show 1 + n - 1 = n by omega]
    refine SecJ.wiped q1 S c hc hS ?_
    have := q (by omega) (by omega)
    rwa [show 1 + n - 1 = n by omega] at this
  obtain ⟨a1, a2⟩ := r1.fopen (P := fun s S => 1 ≤ s → s < 9 → SecJ 4 k (loadsOf ts all) (s - 1) S) (f := 1) (m := 8) (kind := 4) (ts := ts) (rows := all) (k := k) h.right (by rw [h.many]; omega) (by omega) (by omega) (by omega) h.ok h.len h.le r2
    (fun s hs q1 q2 => by have := r2 (s - 1) (by omega); rwa [show 1 + (s - 1) = s by omega] at this) hz
  rcases a2 with ⟨nx, b1, b2, b3, b4, b5, b6⟩ | ⟨_, _, b3, _⟩
  · have hl : (all.take nx).length = nx := by rw [List.length_take]; omega
    have e4 : ((4 : Nat) : Int) = 4 := rfl
    rw [e4] at b3 b4 b6 a1
    refine ⟨(fOpenV D 1 8 4 ts).1, all.take nx, ?_, SkOn.of_rest (a1.trans h.many) h.right (h.ok.take_ nx) (by have := h.le; omega) (b6 h.cut) b4 b5, by rw [hl], by omega, by omega⟩
    rw [hl]
    exact Prod.ext rfl b3
  · exact absurd h.cut b3
/-- What became of Put. -/
theorem SkOn.put (h : SkOn D ts k rows) (n : Int) (hi : IntOk l) :
    (∃ er, sPutV D 1 8 4 rows.length ts n l = (D, rows.length, false, er) ∧ (er = 0 → n ≠ (rows.length : Int))) ∨
    (∃ D', sPutV D 1 8 4 rows.length ts n l = (D', rows.length + 1, true, 0) ∧ n = (rows.length : Int) ∧ SkOn D' ts k (rows ++ [l])) := by
  have hun : sPutV D 1 8 4 rows.length ts n l = if n < 0 ∨ (rows.length : Int) < n then (D, rows.length, false, 2)
    else if fitsB ts l = false then (D, rows.length, false, 41)
    else if n < (rows.length : Int) then (D, rows.length, false, 0)
    else if (jAddV D 1 8 4 rows.length (rowB ts l ts.length)).2.2.2 ≠ 0 then ((jAddV D 1 8 4 rows.length (rowB ts l ts.length)).1, (jAddV D 1 8 4 rows.length (rowB ts l ts.length)).2.1, false, (jAddV D 1 8 4 rows.length (rowB ts l ts.length)).2.2.2)
    else ((jAddV D 1 8 4 rows.length (rowB ts l ts.length)).1, (jAddV D 1 8 4 rows.length (rowB ts l ts.length)).2.1, true, 0) := rfl
  by_cases h1 : n < 0 ∨ (rows.length : Int) < n
  · rw [if_pos h1] at hun
    exact .inl ⟨2, hun, fun e => by cases e⟩
  rw [if_neg h1] at hun
  cases hf : fitsB ts l with
  | false =>
    rw [if_pos hf] at hun
    exact .inl ⟨41, hun, fun e => by cases e⟩
  | true =>
    rw [if_neg (by rw [hf]; simp)] at hun
    by_cases h2 : n < (rows.length : Int)
    · rw [if_pos h2] at hun
      exact .inl ⟨0, hun, fun _ => by omega⟩
    rw [if_neg h2] at hun
    have hrl := row_len h.right l
    have hle := h.le
    by_cases h8 : rows.length = 8
    · have : jAddV D 1 8 4 rows.length (rowB ts l ts.length) = (D, rows.length, 0, 52) := by
        unfold jAddV
        rw [if_neg (by omega), if_pos (by omega)]
      rw [this, if_pos (by simp)] at hun
      exact .inl ⟨52, hun, fun e => by cases e⟩
    · obtain ⟨N, r1, r2⟩ := h.pow
      have hlen := loadsOf_length ts rows
      have hget : (loadsOf ts (rows ++ [l]))[rows.length]? = some (rowB ts l ts.length) := by
        rw [loadsOf_app, List.getElem?_append_right (by omega), hlen, Nat.sub_self]; rfl
      have hold : ∀ (n : Nat) (x : List UInt8), (loadsOf ts rows)[n]? = some x → (loadsOf ts (rows ++ [l]))[n]? = some x := fun n x e => by
        rw [loadsOf_app, List.getElem?_append_left (List.getElem?_eq_some_iff.1 e).1]; exact e
      have hp2 : Pow D N (FSay 4 k (loadsOf ts (rows ++ [l]))) := r1.mono (fun s S hs q q1 q2 => by rw [loadsOf_app]; exact (q q1 q2).more (by rw [hlen]; exact h.len) _) (fun p hp => by
        obtain ⟨n', x, e1, e2, e3⟩ := h.wait p hp
        rw [e1]
        exact fsay_sealed e2 (hold _ _ e3) (loadsOf_len h.right x (List.mem_of_getElem? e3)))
      obtain ⟨a1, a2, a3⟩ := hp2.jadd (f := 1) (m := 8) (kind := 4) (k := rows.length) (l := rowB ts l ts.length) (by rw [h.many]; omega) (by omega) (by omega) (by omega) (by omega) (by have := h.few; omega) (fsay_sealed h.len hget (by omega))
      have e4 : ((4 : Nat) : Int) = 4 := rfl
      rw [e4] at a1 a2 a3
      rcases a3 with ⟨b1, b2, b3⟩ | ⟨_, _, b3, _⟩
      · generalize jAddV D 1 8 4 rows.length (rowB ts l ts.length) = R at *
        obtain ⟨D1, n1, v1, z1⟩ := R
        simp only at a1 a2 b1 b2 b3 hun
        injection b1 with q1 b1
        injection b1 with q2 q3
        subst q1 q2 q3
        rw [if_neg (by simp)] at hun
        have hj := r2.put (by rw [hlen]; omega) (l := rowB ts l ts.length) (by omega)
        rw [hlen, ← loadsOf_app] at hj
        refine .inr ⟨D1, hun, by omega, a1.trans h.many, h.right, h.ok.app hf hi, by rw [List.length_append, List.length_singleton]; omega, by have := h.len; rw [List.length_append]; omega, b3 h.cut, by have := h.few; rw [a2, List.length_append, List.length_append]; simp; exact this, fun p hp => ?_, _, b2, hj⟩
        rw [a2] at hp
        rcases List.mem_append.1 hp with q | q
        · obtain ⟨n', x, e1, e2, e3⟩ := h.wait p q
          exact ⟨n', x, e1, e2, hold _ _ e3⟩
        · rw [List.mem_singleton.1 q]
          exact ⟨rows.length, _, rfl, h.len, hget⟩
      · exact absurd h.cut b3
theorem SkOn.get (h : SkOn D ts k rows) {n : Nat} {l : List Int} (hn : rows[n]? = some l) : fGetV D 1 8 4 rows.length ts (n : Int) = (readV' D, l, 0) := by
  obtain ⟨N, r1, r2⟩ := h.pow
  exact fget_row (kind := 4) r1.fit.off r1.now h.ok r2 (by rw [h.many]; omega) (by omega) (by omega) (by omega) hn
end
def K1 : DiskV := (fOpenV F0 1 8 4 [1]).1
def K2 : DiskV := (sPutV K1 1 8 4 0 [1] 0 [5]).1
def K3 : DiskV := (sPutV K2 1 8 4 1 [1] 1 [6]).1
theorem k_facts : (fOpenV F0 1 8 4 [1]).2 = (0, 0) ∧ (sPutV K1 1 8 4 0 [1] 0 [5]).2 = (1, true, 0) ∧ (sPutV K2 1 8 4 1 [1] 1 [6]).2 = (2, true, 0) ∧ (sPutV K3 1 8 4 2 [1] 0 [7]).2 = (2, false, 0) ∧ (fGetV K3 1 8 4 2 [1] 0).2 = ([5], 0) := by decide +kernel
theorem k_many : K1.many = 10 ∧ K2.many = 10 ∧ K3.many = 10 := by decide +kernel
theorem k_waits : K1.waits.length = 0 ∧ K2.waits.length = 1 ∧ K3.waits.length = 2 := by decide +kernel
theorem k_eqs : fOpenV F0 1 8 4 [1] = (K1, 0, 0) ∧ sPutV K1 1 8 4 0 [1] 0 [5] = (K2, 1, true, 0) ∧ sPutV K2 1 8 4 1 [1] 1 [6] = (K3, 2, true, 0) ∧ sPutV K3 1 8 4 2 [1] 0 [7] = (K3, 2, false, 0) := by
  obtain ⟨f1, f2, f3, f4, _⟩ := k_facts
  refine ⟨pair_eq f1, pair_eq f2, pair_eq f3, ?_⟩
  unfold sPutV
  rw [if_neg (by decide), if_neg (by decide), if_pos (by decide)]
end Go.Proofs.YtalmdccgpigppaaGreat
