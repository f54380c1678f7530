/- Parts: PlainZone, PlainFeed, RowE, FeedM, ProgAt, KeepN, PlainRDisk. -/
import Derived.Test.YtpmkpckldnnigaaGreatPr22
import Derived.Test.YtpmkpckldnnigaaGreatPr03
import Derived.Test.YtpmkpckldnnigaaGreatPr09
import Derived.Test.YtpmkpckldnnigaaGreatPr02
import Derived.Test.YtpmkpckldnnigaaGreatPr20
import Derived.Test.YtpmkpckldnnigaaGreatPr24
import Derived.Test.YtpmkpckldnnigaaGreatPr25
set_option linter.unusedVariables false
set_option linter.unusedSimpArgs false
set_option maxRecDepth 100000
set_option maxHeartbeats 40000000
namespace Go.Proofs.YtpmkpckldnnigaaGreat
open Go.RowKit
structure Safe (D : qa3) (P : Says) : Prop where
  ok : D.Ok
  room : D.room = D.many
  kept : ∀ s : Nat, s < D.many → P s (qc7 D.kept (s : Int))
  shut : ∀ p ∈ D.waits, ShutAt (P p.1) p.2
structure Pow (D : qa3) (N : Secs) (P : Says) : Prop where
  fit : Fit D
  now : ∀ s : Nat, s < D.many → qc7 D.now (s : Int) = N s
  kept : ∀ s : Nat, s < D.many → P s (qc7 D.kept (s : Int))
  shut : ∀ p ∈ D.waits, ShutAt (P p.1) p.2
structure Rest (D : qa3) (N : Secs) : Prop where
  fit : Fit D
  waits : D.waits = []
  now : ∀ s : Nat, s < D.many → qc7 D.now (s : Int) = N s
section
variable {D : qa3} {N N' : Secs} {P P' : Says}
end
structure Jrn (N : Secs) (f m kind : Nat) (all : List (List UInt8)) : Prop where
  le : all.length ≤ m
  len : ∀ l ∈ all, l.length ≤ 113
  recs : ∀ (n : Nat) (l : List UInt8), all[n]? = some l → N (f + n) = qn6 kind n l
  zero : ∀ n, all.length ≤ n → n < m → N (f + n) = qa5
section
variable {kind k n : Nat} {all : List (List UInt8)} {S : List UInt8}
end
section
variable {N : Secs} {f m kind k : Nat} {all : List (List UInt8)}
end
def IntOk (l : List Int) : Prop := ∀ i, i < l.length → -9223372036854775808 ≤ qd5 l i ∧ qd5 l i ≤ 9223372036854775807
structure RowsOk (ts : List Int) (rows : List (List Int)) : Prop where
  fits : ∀ l ∈ rows, fitsB ts l = true
  ints : ∀ l ∈ rows, IntOk l
section
variable {D : qa3} {N : Secs} {f m kind : Nat} {ts : List Int} {rows : List (List Int)}
end
def qg1 (w : World) (base : Nat) (A : Option Addr) (n : Nat) (l : List Int) : Prop := RI w A n l ∧ n ≤ maxLen ∧ (0 < n → qs0 w base 3 A)
section
variable {M : List TypeId} {w w' : World} {base n : Nat} {p : qe3} {D : qa3} {A : Option Addr} {l : List Int}
theorem qg1.step (H : qg1 w base A n l) (hd : qc4 w base p D) (k : Step M base p w w') (ht : 3 ∉ 4 :: M) : qg1 w' base A n l :=
  ⟨⟨H.1.1, H.1.2.stepR H.2.2 hd k ht⟩, H.2.1, fun h0 => (H.2.2 h0).step hd k ht⟩
theorem qg1.below (H : qg1 w base A n l) (hb : Below w.heap.size w w') : qg1 w' base A n l :=
  ⟨H.1.below hb nlr, H.2.1, fun h0 g hg => by
    rcases H.2.2 h0 g hg with q | ⟨cs, q⟩
    · exact .inl q
    · exact .inr ⟨cs, q.below hb q.lt⟩⟩
theorem qg1.old {w0 : World} (H : RI w0 A n l) (hm : n ≤ maxLen) (hb : Below w0.heap.size w0 w) (hs : w0.heap.size ≤ base) : qg1 w base A n l :=
  ⟨H.below hb nlr, hm, fun h0 g hg => by
    obtain ⟨b, o, e, q, _⟩ := H.2 h0; rw [e] at hg; simp only [Option.map_some, Option.some.injEq] at hg; exact .inl omg⟩
theorem qg1.of_ow {b c : Nat} (H : Ow iv w b 3 A n c l) : qg1 w base A n l :=
  ⟨H.rd.ri, by have := H.cap; omega, fun _ g hg => .inr (H.blk hg)⟩
theorem qg1.ri (H : qg1 w base A n l) : RI w A n l := H.1
theorem qg1.nil (w : World) (base : Nat) : qg1 w base none 0 [] := ⟨⟨rfl, Row.nil _ _ _⟩, by unfold maxLen; omega, fun h => absurd h omg⟩
end
section
variable {M : List TypeId} {t : TypeId} {w w' : World} {base g ga next : Nat} {kind : Int} {ts : List Int} {p : qe3} {D : qa3}
end
structure ql6 (w : World) (base : Nat) (x : PA) (p : PV) : Prop where
  rd : qc8 w x p
  s1 : 0 < x.n1 → qs0 w base 3 x.A1
  s2 : 0 < x.n2 → qs0 w base 3 x.A2
  s3 : 0 < x.n3 → qs0 w base 196 x.A3
  s4 : 0 < x.n4 → qs0 w base 133 x.A4
section
variable {M : List TypeId} {w w' w0 : World} {base : Nat} {q : qe3} {D : qa3} {x : PA} {p : PV}
theorem qs0.below {t : TypeId} {A : Option Addr} (h : qs0 w base t A) (hb : Below w.heap.size w w') : qs0 w' base t A := fun g hg => by
  rcases h g hg with e | ⟨cs, e⟩
  · exact .inl e
  · exact .inr ⟨cs, e.below hb e.lt⟩
theorem RdS.stepR {α : Type} {size n : Nat} {enc : α → List Value} {A : Option Addr} {l : List α} {t : TypeId} (h : RdS size enc w A n l) (h0 : 0 < size) (hr : 0 < n → qs0 w base t A) (hd : qc4 w base q D) (k : Step M base q w w') (ht : t ∉ 4 :: M) : RdS size enc w' A n l :=
  ⟨h.1, h.2.1, h.2.2.stepR (fun e => hr (by rcases Nat.eq_zero_or_pos n with z | z; · rw [z, Nat.zero_mul] at e; omega
                                            · exact z)) hd k ht⟩
theorem ql6.below (h : ql6 w base x p) (hb : Below w.heap.size w w') : ql6 w' base x p :=
  ⟨h.rd.below hb nlr, fun e => (h.s1 e).below hb, fun e => (h.s2 e).below hb, fun e => (h.s3 e).below hb, fun e => (h.s4 e).below hb⟩
theorem ql6.step (h : ql6 w base x p) (hd : qc4 w base q D) (k : Step M base q w w') (h1 : 3 ∉ 4 :: M) (h3 : 196 ∉ 4 :: M) (h4 : 133 ∉ 4 :: M) : ql6 w' base x p :=
  ⟨⟨⟨h.rd.r1.1, h.rd.r1.2.stepR h.s1 hd k h1⟩, ⟨h.rd.r2.1, h.rd.r2.2.stepR h.s2 hd k h1⟩, h.rd.r3.stepR omg h.s3 hd k h3, h.rd.r4.stepR omg h.s4 hd k h4, h.rd.k1, h.rd.k2, h.rd.k3, h.rd.k4⟩,
    fun e => (h.s1 e).step hd k h1, fun e => (h.s2 e).step hd k h1, fun e => (h.s3 e).step hd k h3, fun e => (h.s4 e).step hd k h4⟩
theorem qx9 {A : Option Addr} {n : Nat} {t : TypeId} {f : Nat → Value} (h : Row w0 A n f) (hs : w0.heap.size ≤ base) (h0 : 0 < n) : qs0 w base t A := fun g hg => by
  obtain ⟨b, o, e, hb, _⟩ := h h0; rw [e] at hg; simp only [Option.map_some, Option.some.injEq] at hg; exact .inl omg
theorem ql6.old (h : qc8 w0 x p) (hb : Below w0.heap.size w0 w) (hs : w0.heap.size ≤ base) : ql6 w base x p :=
  ⟨h.below hb nlr, fun e => qx9 h.r1.2 hs e, fun e => qx9 h.r2.2 hs e, fun e => qx9 h.r3.2.2 hs omg, fun e => qx9 h.r4.2.2 hs omg⟩
end
def keepC (gs : Nat) (x : PA) (p : PV) (hash : Int) (s : SV) (A : Option Addr) (n c : Nat) (has : Bool) : List Value :=
  [.pointer (some ⟨gs, 0, none⟩), .slice x.A1 x.n1 x.c1, .slice x.A2 x.n2 x.c2, .int .i64 p.regs, .slice x.A3 x.n3 x.c3, .slice x.A4 x.n4 x.c4, .int .i64 hash, .int .i64 s.tick, .int .i64 s.hash, .slice A n c, .bool has]
def qg5 (X : Nat → Prop) (w : World) (base g ga gb : Nat) (x : PA) (p : PV) (hash : Int) (k : KpV) : Prop :=
  ∃ gs A n c, Blk w g 111 (keepC gs x p hash k.last A n c k.has) ∧ base ≤ gs ∧ base ≤ g ∧ qf3 w base gs ga gb k.s ∧ qg1 w base A n k.last.cells ∧ n ≤ c ∧ c ≤ maxLen ∧ ql6 w base x p ∧ ∀ b, A.map (·.block) = some b → ¬ X b
abbrev vj1 (w : World) (base g ga gb : Nat) (x : PA) (p : PV) (hash : Int) (k : KpV) : Prop := qg5 (fun _ => False) w base g ga gb x p hash k
def mutK : List TypeId := 111 :: mutS
section
variable {M : List TypeId} {w w' : World} {base g ga gb : Nat} {q : qe3} {D : qa3} {x : PA} {p : PV} {hash : Int} {k : KpV} {X : Nat → Prop}
theorem qf3.stepM {gs : Nat} {s : SlV3} (h : qf3 w base gs ga gb s) (hd : qc4 w base q D) (t : Step M base q w w') (h2 : 209 ∉ 4 :: M) (h3 : 5 ∉ 4 :: M) : qf3 w' base gs ga gb s := by
  obtain ⟨B, n, c, b1, b2, b3, b4, b5, b6⟩ := h; exact ⟨B, n, c, hd.blk b1 t.tch h2, b2, b3, b4.step hd t h3, b5, b6⟩
theorem qg5.below (h : qg5 X w base g ga gb x p hash k) (hb : Below w.heap.size w w') : qg5 X w' base g ga gb x p hash k := by
  obtain ⟨gs, A, n, c, b1, b2, b3, b4, b5, b6, b7, b8, b9⟩ := h; exact ⟨gs, A, n, c, b1.below hb b1.lt, b2, b3, b4.below hb, b5.below hb, b6, b7, b8.below hb, b9⟩
theorem qg5.step (h : qg5 X w base g ga gb x p hash k) (hd : qc4 w base q D) (t : Step M base q w w') (h1 : 111 ∉ 4 :: M) (h2 : 209 ∉ 4 :: M) (h3 : 5 ∉ 4 :: M) (h4 : 3 ∉ 4 :: M) (h5 : 196 ∉ 4 :: M) (h6 : 133 ∉ 4 :: M) : qg5 X w' base g ga gb x p hash k := by
  obtain ⟨gs, A, n, c, b1, b2, b3, b4, b5, b6, b7, b8, b9⟩ := h; exact ⟨gs, A, n, c, hd.blk b1 t.tch h1, b2, b3, b4.stepM hd t h2 h3, b5.step hd t h4, b6, b7, b8.step hd t h4 h5 h6, b9⟩
theorem qc4.keepSet {cs : List Value} (h : qc4 w base q D) (hb : Blk w g 111 cs) (i : Nat) (u : Value) : qc4 (w.setCell ⟨g, i, none⟩ u) base q D := by
  obtain ⟨A9, c9, h9⟩ := h; exact ⟨A9, c9, h9.keep (F := (· = g)) (Keep.one (qb1 _)) (fun g9 hf e => by
    subst e; rcases h9.foot_ty hb hf with q | q | q | q | q <;> exact absurd q dcd)⟩
theorem Step.toK (h : Step mutS base q w w') : Step mutK base q w w' := h.mono fun t ht => List.mem_cons_of_mem _ ht
def vj2 (X : Nat → Prop) (w : World) (base : Nat) (q : qe3) (ga gb : Nat) (x : PA) (p : PV) (hash : Int) (R : qa3 × KpV × Int) (e : Ending) (w' : World) : Prop :=
  ∃ P, e = .returned (.tuple #[.pointer P, .int .i64 R.2.2]) ∧ (R.2.2 ≠ 0 → P = none) ∧ (R.2.2 = 0 → ∃ g, P = some ⟨g, 0, none⟩ ∧ w.heap.size ≤ g ∧ qg5 X w' base g ga gb x p hash R.2.1) ∧ qc4 w' base q R.1 ∧ Step mutD base q w w'
theorem vj2.no {z : Int} {D' : qa3} {k : KpV} (hz : z ≠ 0) (hd : qc4 w' base q D') (hs : Step mutD base q w w') : vj2 X w base q ga gb x p hash (D', k, z) (.returned (.tuple #[.pointer none, .int .i64 z])) w' :=
  ⟨none, rfl, fun _ => rfl, fun e => absurd e hz, hd, hs⟩
end
structure Cons (D : qa3) : Prop where
  now : D.now = (qg9 D.waits (D.kept, D.inuse) D.waits.length).1
  might : D.might = (qg9 D.waits (D.kept, D.inuse) D.waits.length).2
  used : (qh2 D.might : Int) ≤ D.room
theorem trues_set {l : List Bool} {n : Nat} (hn : n < l.length) : qh2 (l.set n true) = qh2 l + if l.getD n false then 0 else 1 := by
  induction l generalizing n with
  | nil => simp at hn
  | cons b l ih =>
    cases n with
    | zero => cases b <;> simp [qh2]
    | succ n =>
      have := ih (n := n) (by simpa using hn); unfold qh2 at this ⊢; rw [List.set_cons_succ]
      cases b with
      | true => rw [List.filter_cons_of_pos rfl, List.filter_cons_of_pos rfl, List.length_cons, List.length_cons, this]; simp only [List.getD_cons_succ]; omega
      | false => rw [List.filter_cons_of_neg smp, List.filter_cons_of_neg smp, this]; simp only [List.getD_cons_succ]
theorem trues_mono : ∀ {l m : List Bool}, l.length = m.length → (∀ n, l.getD n false = true → m.getD n false = true) → qh2 l ≤ qh2 m := by
  intro l
  induction l with
  | nil => intro m _ _; simp [qh2]
  | cons b l ih =>
    intro m hl h
    cases m with
    | nil => simp at hl
    | cons c m =>
      have h1 := ih (m := m) (by simpa using hl) (fun n hn => by have := h (n + 1) (by simpa using hn); simpa using this); have h0 : b = true → c = true := fun e => by simpa using h 0 (by simpa using e)
      unfold qh2 at h1 ⊢
      cases b with
      | true =>
        rw [h0 rfl, List.filter_cons_of_pos rfl, List.filter_cons_of_pos rfl, List.length_cons, List.length_cons]; omega
      | false =>
        rw [List.filter_cons_of_neg smp]
        cases c with
        | true => rw [List.filter_cons_of_pos rfl, List.length_cons]; omega
        | false => rw [List.filter_cons_of_neg smp]; exact h1
section
variable {D : qa3}
theorem Cons.goes (h : Cons D) (k : Int) : Cons (qp5 D k) := ⟨h.now, h.might, h.used⟩
theorem Cons.put (h : Cons D) (ok : D.Ok) {n : Int} (h0 : 0 ≤ n) (h1 : n < D.many) (b : List UInt8) (hf : qz9 D n = false) : Cons (putD D n b) := by
  refine ⟨?_, ?_, ?_⟩
  · show splice D.now (n.toNat * 128) b = (qg9 (D.waits ++ [(n.toNat, b)]) (D.kept, D.inuse) (D.waits ++ [(n.toNat, b)]).length).1
    rw [keepK_app, ← h.now]
  · show D.might.set n.toNat true = (qg9 (D.waits ++ [(n.toNat, b)]) (D.kept, D.inuse) (D.waits ++ [(n.toNat, b)]).length).2
    rw [keepK_app, ← h.might]
  · show (qh2 (D.might.set n.toNat true) : Int) ≤ D.room
    rw [trues_set (by rw [ok.might]; omega)]; unfold qz9 at hf; have := h.used
    cases hb : D.might.getD n.toNat false with
    | true => simp; exact this
    | false =>
      rw [hb] at hf; simp only [Bool.not_false, Bool.true_and, beq_eq_false_iff_ne] at hf; simp; omega
theorem Cons.flush (h : Cons D) : Cons (qc1 D).1 := by
  unfold qc1
  split
  · exact h
  · split
    · exact h.goes 3
    · exact ⟨h.now, h.might, h.used⟩
theorem vi1 (W : List (Nat × List UInt8)) (s : List UInt8 × List Bool) : ∀ k, (qg9 W s k).2.length = s.2.length := by
  intro k
  induction k with
  | zero => rfl
  | succ k ih => show ((qg9 W s k).2.set _ true).length = _; rw [List.length_set, ih]
theorem keepK_hit {W : List (Nat × List UInt8)} {s : List UInt8 × List Bool} {n j : Nat} (hj : (qa9 W j).1 = n) (hn : n < s.2.length) : ∀ k, j < k → (qg9 W s k).2.getD n false = true := by
  intro k
  induction k with
  | zero => intro h; omega
  | succ k ih =>
    intro h
    show ((qg9 W s k).2.set _ true).getD n false = true
    rw [List.getD_eq_getElem?_getD, List.getElem?_set]
    split
    · rw [if_pos (by rw [vi1]; rename_i q; omega)]; rfl
    · rename_i q; rw [← List.getD_eq_getElem?_getD]; rcases Nat.lt_or_ge j k with h2 | h2
      · exact ih h2
      · have : j = k := omg; subst this; exact absurd hj q
theorem keepK_no {W : List (Nat × List UInt8)} {s : List UInt8 × List Bool} {n : Nat} : ∀ k, (∀ j, j < k → (qa9 W j).1 ≠ n) → (qg9 W s k).2.getD n false = s.2.getD n false := by
  intro k
  induction k with
  | zero => intro _; rfl
  | succ k ih =>
    intro h
    show ((qg9 W s k).2.set _ true).getD n false = _
    rw [List.getD_eq_getElem?_getD, List.getElem?_set, if_neg (h k omg), ← List.getD_eq_getElem?_getD]; exact ih (fun j hj => h j omg)
theorem vi2 (ok : D.Ok) {n : Nat} (hn : n < D.many) {i : Nat} : ∀ k, i ≤ k → k ≤ D.waits.length → (∀ j, i ≤ j → j < k → (qa9 D.waits j).1 ≠ n) → qc7 (qg9 D.waits (D.kept, D.inuse) k).1 (n : Int) = qc7 (qg9 D.waits (D.kept, D.inuse) i).1 (n : Int) := by
  intro k
  induction k with
  | zero => intro h _ _; have : i = 0 := omg
            subst this; rfl
  | succ k ih =>
    intro h hk hno; rcases Nat.lt_or_ge k i with q | q
    · have : i = k + 1 := omg; subst this; rfl
    · obtain ⟨p1, p2⟩ := qj4 ok (show k < D.waits.length by omega)
      show qc7 (splice (qg9 D.waits (D.kept, D.inuse) k).1 ((qa9 D.waits k).1 * 128) (qa9 D.waits k).2) (n : Int) = _
      rw [qt8 (qu6 ok k omg).1 p2 p1 hn, if_neg (fun e => hno k q omg e.symm)]; exact ih q omg (fun j h1 h2 => hno j h1 omg)
theorem Cons.at_hit (h : Cons D) (ok : D.Ok) {n i : Nat} (hn : n < D.many) (hi : i < D.waits.length) (hx : (qa9 D.waits i).1 = n) (hno : ∀ j, i < j → j < D.waits.length → (qa9 D.waits j).1 ≠ n) : qc7 D.now (n : Int) = (qa9 D.waits i).2 := by
  rw [h.now, vi2 ok hn (i := i + 1) _ hi nlr (fun j h1 h2 => hno j h1 h2)]; obtain ⟨p1, p2⟩ := qj4 ok hi
  show qc7 (splice (qg9 D.waits (D.kept, D.inuse) i).1 ((qa9 D.waits i).1 * 128) (qa9 D.waits i).2) (n : Int) = _
  rw [qt8 (qu6 ok i omg).1 p2 p1 hn, if_pos hx.symm]
theorem Cons.at_none (h : Cons D) (ok : D.Ok) {n : Nat} (hn : n < D.many) (hno : ∀ j, j < D.waits.length → (qa9 D.waits j).1 ≠ n) : qc7 D.now (n : Int) = qc7 D.kept (n : Int) := by
  rw [h.now, vi2 ok hn (i := 0) _ (Nat.zero_le _) nlr (fun j _ h2 => hno j h2)]; rfl
theorem Cons.is_hit (h : Cons D) (ok : D.Ok) {n i : Nat} (hn : n < D.many) (hi : i < D.waits.length) (hx : (qa9 D.waits i).1 = n) : D.might.getD n false = true := by
  rw [h.might]; exact keepK_hit hx (by show n < D.inuse.length; rw [ok.inuse]; exact hn) _ hi
theorem Cons.is_none (h : Cons D) {n : Nat} (hno : ∀ j, j < D.waits.length → (qa9 D.waits j).1 ≠ n) : D.might.getD n false = D.inuse.getD n false := by
  rw [h.might]; exact keepK_no _ hno
theorem ve8 (W : List (Nat × List UInt8)) (cs : List UInt8) (s : List UInt8 × List Bool) : ∀ k, (qe6 W cs s k).2.length = s.2.length := by
  intro k
  induction k with
  | zero => rfl
  | succ k ih =>
    unfold qe6; simp only
    split
    · rw [List.length_set, ih]
    · exact ih
theorem crash_sub (W : List (Nat × List UInt8)) (cs : List UInt8) (s : List UInt8 × List Bool) (n : Nat) : ∀ k, (qe6 W cs s k).2.getD n false = true → (qg9 W s k).2.getD n false = true := by
  intro k
  induction k with
  | zero => intro h; exact h
  | succ k ih =>
    intro h
    show ((qg9 W s k).2.set (qa9 W k).1 true).getD n false = true
    rw [List.getD_eq_getElem?_getD, List.getElem?_set]; unfold qe6 at h; simp only at h
    split
    · rename_i q
      split
      · rfl
      · rename_i q2
        exfalso
        have hl := ve8 W cs s k; have hl2 := vi1 W s k
        split at h
        · rw [List.getD_eq_getElem?_getD, List.getElem?_eq_none (by rw [List.length_set]; omega)] at h; cases h
        · rw [List.getD_eq_getElem?_getD, List.getElem?_eq_none omg] at h; cases h
    · rename_i q; rw [← List.getD_eq_getElem?_getD]; apply ih
      split at h
      · rw [List.getD_eq_getElem?_getD, List.getElem?_set, if_neg q, ← List.getD_eq_getElem?_getD] at h; exact h
      · exact h
theorem keepK_grow (W : List (Nat × List UInt8)) (s : List UInt8 × List Bool) (n : Nat) {i : Nat} (h : (qg9 W s i).2.getD n false = true) : ∀ k, i ≤ k → (qg9 W s k).2.getD n false = true := by
  intro k
  induction k with
  | zero => intro hk; have : i = 0 := omg
            subst this; exact h
  | succ k ih =>
    intro hk; rcases Nat.lt_or_ge k i with q | q
    · have : i = k + 1 := omg; subst this; exact h
    · show ((qg9 W s k).2.set (qa9 W k).1 true).getD n false = true
      have h1 := ih q; rw [List.getD_eq_getElem?_getD, List.getElem?_set]
      split
      · split
        · rfl
        · rename_i q1 q2; rw [List.getD_eq_getElem?_getD, List.getElem?_eq_none omg] at h1
          cases h1
      · rw [← List.getD_eq_getElem?_getD]; exact h1
theorem Cons.crash (h : Cons D) (ok : D.Ok) (cs : List UInt8) : Cons (qr4 D cs) := by
  refine ⟨rfl, rfl, ?_⟩; have h1 : qh2 (qr4 D cs).might ≤ qh2 D.might := by
    apply trues_mono
    · show (qe6 D.waits cs (D.kept, D.inuse) _).2.length = _
      rw [ve8, ok.might]; exact ok.inuse
    · intro n hn; rw [h.might]; exact keepK_grow _ _ _ (crash_sub D.waits cs (D.kept, D.inuse) n _ hn) _ (Nat.min_le_left _ _)
  have := h.used
  show (qh2 (qr4 D cs).might : Int) ≤ D.room
  omega
theorem crashK_over (W : List (Nat × List UInt8)) (cs : List UInt8) (s : List UInt8 × List Bool) : ∀ k, cs.length ≤ k → qe6 W cs s k = qe6 W cs s cs.length := by
  intro k
  induction k with
  | zero => intro h; have : cs.length = 0 := omg
            rw [this]
  | succ k ih =>
    intro h; rcases Nat.lt_or_ge k cs.length with q | q
    · have : cs.length = k + 1 := omg; rw [this]
    · have e : qa2 cs k = 0 := by unfold qa2; rw [List.getD_eq_getElem?_getD, List.getElem?_eq_none q]; rfl
      rw [← ih q]
      show (splice (qe6 W cs s k).1 ((qa9 W k).1 * 128) ((qa9 W k).2.take (min (qa2 cs k) 128)), if 0 < qa2 cs k then _ else _) = _
      rw [e]; simp [splice]
theorem crashE_all (D : qa3) (cs : List UInt8) : ve9 D cs = qe6 D.waits cs (D.kept, D.inuse) D.waits.length := by
  unfold ve9; rcases Nat.le_total D.waits.length cs.length with q | q
  · rw [Nat.min_eq_left q]
  · rw [Nat.min_eq_right q, crashK_over _ _ _ _ q]
theorem trues_trueK {many k : Nat} (h : k ≤ many) : qh2 (qq3 many k) = k := by
  unfold qh2 qq3; rw [List.filter_append, List.length_append]; have h1 : (List.replicate k true).filter id = List.replicate k true := by rw [List.filter_replicate]; rfl
  have h2 : (List.replicate (many - k) false).filter id = [] := by rw [List.filter_replicate]; rfl
  rw [h1, h2]; simp
theorem cons_load {many : Nat} {room : Int} {img : List UInt8} {k : Nat} (hk : k ≤ many) (hr : (k : Int) ≤ room) : Cons (qr2 many room img k) := ⟨rfl, rfl, by show (qh2 (qq3 many k) : Int) ≤ room; rw [trues_trueK hk]; exact hr⟩
end
end Go.Proofs.YtpmkpckldnnigaaGreat
