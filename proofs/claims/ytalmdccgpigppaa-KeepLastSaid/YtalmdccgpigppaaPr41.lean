/- Parts: PlainFeed, RowE, FeedM, ProgAt, KeepN, KeepM. -/
import Derived.Test.YtalmdccgpigppaaPr40
import Derived.Test.YtalmdccgpigppaaPr04
import Derived.Test.YtalmdccgpigppaaPr11
import Derived.Test.YtalmdccgpigppaaPr31
import Derived.Test.YtalmdccgpigppaaPr36
import Derived.Test.YtalmdccgpigppaaPr37
namespace Go.Proofs.Ytalmdccgpigppaa
open Go.RowKit
set_option linter.unusedVariables false
set_option linter.unusedSimpArgs false
/-- Rows that fit, of numbers that are some. -/
def IntOk (l : List Int) : Prop := ∀ i, i < l.length → -9223372036854775808 ≤ intAt l i ∧ intAt l i ≤ 9223372036854775807
structure RowsOk (ts : List Int) (rows : List (List Int)) : Prop where
  fits : ∀ l ∈ rows, fitsB ts l = true
  ints : ∀ l ∈ rows, IntOk l
section
variable {D : DiskV} {N : Secs} {f m kind : Nat} {ts : List Int} {rows : List (List Int)}
end
end Go.Proofs.Ytalmdccgpigppaa
namespace Go.Proofs.Ytalmdccgpigppaa
open Go.RowKit

/-- What reading hands back. -/
def ReadEnd (w : World) (r : List Int × Nat) (e : Ending) (w' : World) : Prop := ∃ A n c, e = .returned (.tuple #[.slice A n c, .int .i64 (r.2 : Nat)]) ∧ Ow iv w' w.heap.size 3 A n c r.1 ∧ Below w.heap.size w w'
theorem ReadEnd.bad {w w' : World} {r : List Int × Nat} (z : Int) (h1 : r.1 = []) (h2 : z = (r.2 : Nat)) (hb : Below w.heap.size w w') : ReadEnd w r (.returned (.tuple #[.slice none 0 0, .int .i64 z])) w' :=
  ⟨none, 0, 0, by rw [h2], by rw [h1]; exact Ow.nil _ _ _ _, hb⟩
end Go.Proofs.Ytalmdccgpigppaa
namespace Go.Proofs.Ytalmdccgpigppaa
open Go.RowKit
set_option linter.unusedVariables false
set_option linter.unusedSimpArgs false
def IntsAt (w : World) (base : Nat) (A : Option Addr) (n : Nat) (l : List Int) : Prop := RI w A n l ∧ n ≤ maxLen ∧ (0 < n → Rests w base 3 A)
section
variable {M : List TypeId} {w w' : World} {base n : Nat} {p : DiskP} {D : DiskV} {A : Option Addr} {l : List Int}
theorem IntsAt.step (H : IntsAt w base A n l) (hd : DiskS w base p D) (k : Step M base p w w') (ht : 3 ∉ 4 :: M) : IntsAt w' base A n l :=
  ⟨⟨H.1.1, H.1.2.stepR H.2.2 hd k ht⟩, H.2.1, fun h0 => (H.2.2 h0).step hd k ht⟩
theorem IntsAt.below (H : IntsAt w base A n l) (hb : Below w.heap.size w w') : IntsAt w' base A n l :=
  ⟨H.1.below hb (Nat.le_refl _), H.2.1, fun h0 g hg => by
    rcases H.2.2 h0 g hg with q | ⟨cs, q⟩
    · exact .inl q
    · exact .inr ⟨cs, q.below hb q.lt⟩⟩
theorem IntsAt.old {w0 : World} (H : RI w0 A n l) (hm : n ≤ maxLen) (hb : Below w0.heap.size w0 w) (hs : w0.heap.size ≤ base) : IntsAt w base A n l :=
  ⟨H.below hb (Nat.le_refl _), hm, fun h0 g hg => by
    obtain ⟨b, o, e, q, _⟩ := H.2 h0
    rw [e] at hg
    simp only [Option.map_some, Option.some.injEq] at hg
    exact .inl (by omega)⟩
theorem IntsAt.of_ow {b c : Nat} (H : Ow iv w b 3 A n c l) : IntsAt w base A n l :=
  ⟨H.rd.ri, by have := H.cap; omega, fun _ g hg => .inr (H.blk hg)⟩
theorem IntsAt.ri (H : IntsAt w base A n l) : RI w A n l := H.1
theorem IntsAt.len (H : IntsAt w base A n l) : n ≤ maxLen := H.2.1
theorem IntsAt.nil (w : World) (base : Nat) : IntsAt w base none 0 [] := ⟨⟨rfl, Row.nil _ _ _⟩, by unfold maxLen; omega, fun h => absurd h (by omega)⟩
end
/-- A journal of rows: a block of the type t. -/
def JRowsAt (t : TypeId) (w : World) (base g ga : Nat) (kind : Int) (next : Nat) (ts : List Int) : Prop :=
  ∃ gj A n c, Blk w g t [.pointer (some ⟨gj, 0, none⟩), .slice A n c] ∧ base ≤ gj ∧ JrnAt w gj ga kind next ∧ IntsAt w base A n ts
section
variable {M : List TypeId} {t : TypeId} {w w' : World} {base g ga next : Nat} {kind : Int} {ts : List Int} {p : DiskP} {D : DiskV}
theorem JRowsAt.step (H : JRowsAt t w base g ga kind next ts) (hd : DiskS w base p D) (k : Step M base p w w') (h1 : t ∉ 4 :: M) (h2 : 178 ∉ 4 :: M) (h3 : 3 ∉ 4 :: M) : JRowsAt t w' base g ga kind next ts := by
  obtain ⟨gj, A, n, c, hb, hg, hj, hi⟩ := H
  exact ⟨gj, A, n, c, hd.blk hb k.tch h1, hg, hd.blk hj k.tch h2, hi.step hd k h3⟩
theorem JRowsAt.below (H : JRowsAt t w base g ga kind next ts) (hb : Below w.heap.size w w') : JRowsAt t w' base g ga kind next ts := by
  obtain ⟨gj, A, n, c, hx, hg, hj, hi⟩ := H
  exact ⟨gj, A, n, c, hx.below hb hx.lt, hg, hj.below hb, hi.below hb⟩
end
end Go.Proofs.Ytalmdccgpigppaa
namespace Go.Proofs.Ytalmdccgpigppaa
open Go.RowKit
set_option linter.unusedVariables false
set_option linter.unusedSimpArgs false
structure ProgAt (w : World) (base : Nat) (x : PA) (p : PV) : Prop where
  rd : ProgRd w x p
  s1 : 0 < x.n1 → Rests w base 3 x.A1
  s2 : 0 < x.n2 → Rests w base 3 x.A2
  s3 : 0 < x.n3 → Rests w base 160 x.A3
  s4 : 0 < x.n4 → Rests w base 162 x.A4
section
variable {M : List TypeId} {w w' w0 : World} {base : Nat} {q : DiskP} {D : DiskV} {x : PA} {p : PV}
theorem Rests.below {t : TypeId} {A : Option Addr} (h : Rests w base t A) (hb : Below w.heap.size w w') : Rests w' base t A := fun g hg => by
  rcases h g hg with e | ⟨cs, e⟩
  · exact .inl e
  · exact .inr ⟨cs, e.below hb e.lt⟩
theorem RdS.stepR {α : Type} {size n : Nat} {enc : α → List Value} {A : Option Addr} {l : List α} {t : TypeId} (h : RdS size enc w A n l) (h0 : 0 < size) (hr : 0 < n → Rests w base t A) (hd : DiskS w base q D) (k : Step M base q w w') (ht : t ∉ 4 :: M) : RdS size enc w' A n l :=
  ⟨h.1, h.2.1, h.2.2.stepR (fun e => hr (by rcases Nat.eq_zero_or_pos n with z | z; · rw [z, Nat.zero_mul] at e; omega
                                            · exact z)) hd k ht⟩
theorem ProgAt.below (h : ProgAt w base x p) (hb : Below w.heap.size w w') : ProgAt w' base x p :=
  ⟨h.rd.below hb (Nat.le_refl _), fun e => (h.s1 e).below hb, fun e => (h.s2 e).below hb, fun e => (h.s3 e).below hb, fun e => (h.s4 e).below hb⟩
theorem ProgAt.step (h : ProgAt w base x p) (hd : DiskS w base q D) (k : Step M base q w w') (h1 : 3 ∉ 4 :: M) (h3 : 160 ∉ 4 :: M) (h4 : 162 ∉ 4 :: M) : ProgAt w' base x p :=
  ⟨⟨⟨h.rd.r1.1, h.rd.r1.2.stepR h.s1 hd k h1⟩, ⟨h.rd.r2.1, h.rd.r2.2.stepR h.s2 hd k h1⟩, h.rd.r3.stepR (by omega) h.s3 hd k h3, h.rd.r4.stepR (by omega) h.s4 hd k h4, h.rd.k1, h.rd.k2, h.rd.k3, h.rd.k4⟩,
    fun e => (h.s1 e).step hd k h1, fun e => (h.s2 e).step hd k h1, fun e => (h.s3 e).step hd k h3, fun e => (h.s4 e).step hd k h4⟩
theorem rests_old {A : Option Addr} {n : Nat} {t : TypeId} {f : Nat → Value} (h : Row w0 A n f) (hs : w0.heap.size ≤ base) (h0 : 0 < n) : Rests w base t A := fun g hg => by
  obtain ⟨b, o, e, hb, _⟩ := h h0
  rw [e] at hg
  simp only [Option.map_some, Option.some.injEq] at hg
  exact .inl (by omega)
theorem ProgAt.old (h : ProgRd w0 x p) (hb : Below w0.heap.size w0 w) (hs : w0.heap.size ≤ base) : ProgAt w base x p :=
  ⟨h.below hb (Nat.le_refl _), fun e => rests_old h.r1.2 hs e, fun e => rests_old h.r2.2 hs e, fun e => rests_old h.r3.2.2 hs (by omega), fun e => rests_old h.r4.2.2 hs (by omega)⟩
end
end Go.Proofs.Ytalmdccgpigppaa
namespace Go.Proofs.Ytalmdccgpigppaa
open Go.RowKit
set_option linter.unusedVariables false
set_option linter.unusedSimpArgs false
def keepC (gs : Nat) (x : PA) (p : PV) (hash : Int) (s : SV) (A : Option Addr) (n c : Nat) (has : Bool) : List Value :=
  [.pointer (some ⟨gs, 0, none⟩), .slice x.A1 x.n1 x.c1, .slice x.A2 x.n2 x.c2, .int .i64 p.regs, .slice x.A3 x.n3 x.c3, .slice x.A4 x.n4 x.c4, .int .i64 hash, .int .i64 s.tick, .int .i64 s.hash, .slice A n c, .bool has]
def KeepAt (w : World) (base g ga gb : Nat) (x : PA) (p : PV) (hash : Int) (k : KpV) : Prop :=
  ∃ gs A n c, Blk w g 156 (keepC gs x p hash k.last A n c k.has) ∧ base ≤ gs ∧ base ≤ g ∧ SlotsAt w base gs ga gb k.s ∧ IntsAt w base A n k.last.cells ∧ n ≤ c ∧ c ≤ maxLen ∧ ProgAt w base x p
def mutK : List TypeId := 156 :: mutS
section
variable {M : List TypeId} {w w' : World} {base g ga gb : Nat} {q : DiskP} {D : DiskV} {x : PA} {p : PV} {hash : Int} {k : KpV}
theorem SlotsAt.stepM {gs : Nat} {s : SlV3} (h : SlotsAt w base gs ga gb s) (hd : DiskS w base q D) (t : Step M base q w w') (h2 : 111 ∉ 4 :: M) (h3 : 5 ∉ 4 :: M) : SlotsAt w' base gs ga gb s := by
  obtain ⟨B, n, c, b1, b2, b3, b4, b5, b6⟩ := h
  exact ⟨B, n, c, hd.blk b1 t.tch h2, b2, b3, b4.step hd t h3, b5, b6⟩
theorem KeepAt.below (h : KeepAt w base g ga gb x p hash k) (hb : Below w.heap.size w w') : KeepAt w' base g ga gb x p hash k := by
  obtain ⟨gs, A, n, c, b1, b2, b3, b4, b5, b6, b7, b8⟩ := h
  exact ⟨gs, A, n, c, b1.below hb b1.lt, b2, b3, b4.below hb, b5.below hb, b6, b7, b8.below hb⟩
theorem KeepAt.step (h : KeepAt w base g ga gb x p hash k) (hd : DiskS w base q D) (t : Step M base q w w') (h1 : 156 ∉ 4 :: M) (h2 : 111 ∉ 4 :: M) (h3 : 5 ∉ 4 :: M) (h4 : 3 ∉ 4 :: M) (h5 : 160 ∉ 4 :: M) (h6 : 162 ∉ 4 :: M) : KeepAt w' base g ga gb x p hash k := by
  obtain ⟨gs, A, n, c, b1, b2, b3, b4, b5, b6, b7, b8⟩ := h
  exact ⟨gs, A, n, c, hd.blk b1 t.tch h1, b2, b3, b4.stepM hd t h2 h3, b5.step hd t h4, b6, b7, b8.step hd t h4 h5 h6⟩
/-- A keep's own block is changed. -/
theorem Step.keepSet {cs : List Value} (hb : Blk w g 156 cs) (hg : base ≤ g) (hs : base ≤ w.heap.size) (i : Nat) (u : Value) : Step mutK base q w (w.setCell ⟨g, i, none⟩ u) := Step.one (grown_setCell _) hb (List.mem_cons_self ..) hg hs
theorem DiskS.keepSet {cs : List Value} (h : DiskS w base q D) (hb : Blk w g 156 cs) (i : Nat) (u : Value) : DiskS (w.setCell ⟨g, i, none⟩ u) base q D := by
  obtain ⟨A9, c9, h9⟩ := h
  exact ⟨A9, c9, h9.keep (F := (· = g)) (Keep.one (grown_setCell _)) (fun g9 hf e => by
    subst e
    rcases h9.foot_ty hb hf with q | q | q | q | q <;> exact absurd q (by decide))⟩
theorem Step.toK (h : Step mutS base q w w') : Step mutK base q w w' := h.mono fun t ht => List.mem_cons_of_mem _ ht
/-- What opening a keep leaves. -/
def KOPost (w : World) (base : Nat) (q : DiskP) (ga gb : Nat) (x : PA) (p : PV) (hash : Int) (R : DiskV × KpV × Int) (e : Ending) (w' : World) : Prop :=
  ∃ P, e = .returned (.tuple #[.pointer P, .int .i64 R.2.2]) ∧ (R.2.2 ≠ 0 → P = none) ∧ (R.2.2 = 0 → ∃ g, P = some ⟨g, 0, none⟩ ∧ w.heap.size ≤ g ∧ KeepAt w' base g ga gb x p hash R.2.1) ∧ DiskS w' base q R.1 ∧ Step mutD base q w w'
theorem KOPost.no {z : Int} {D' : DiskV} {k : KpV} (hz : z ≠ 0) (hd : DiskS w' base q D') (hs : Step mutD base q w w') : KOPost w base q ga gb x p hash (D', k, z) (.returned (.tuple #[.pointer none, .int .i64 z])) w' :=
  ⟨none, rfl, fun _ => rfl, fun e => absurd e hz, hd, hs⟩
end
end Go.Proofs.Ytalmdccgpigppaa
namespace Go.Proofs.Ytalmdccgpigppaa
open Go.RowKit
set_option linter.unusedVariables false
set_option linter.unusedSimpArgs false
theorem made37_ok (B : Option Addr) (n d : Nat) (img : List UInt8) (w : World) (hr : RB w B n img) (hnd : n ≤ d) (hl : n ≤ 1536) (hu : (usedN img : Int) ≤ 12) :
    Calls Try.prog 39 #[.slice B n d] w (Made10 w (loadD 12 12 img (usedN img))) := by
  have hld : Calls Try.prog 45 #[.slice B n d, .int .i64 12, .int .i64 12] w (LdPost w (loadD 12 12 img (usedN img))) := load_ok B n d img 12 12 w hr hnd (by omega) (by omega) (by omega) (by omega) (by omega) hu
  have hmany : (loadD 12 12 img (usedN img)).many = 12 := rfl
  generalize loadD 12 12 img (usedN img) = D at *
  have hna : ∀ {w1 : World} {p : DiskP}, DiskS w1 w.heap.size p D → w.heap.size ≤ w1.heap.size → Calls Try.prog 46 #[.pointer (some ⟨p.d, 0, none⟩), .agg #[.int .i64 0, .int .i64 6]] w1 fun e w' => ∃ ga, e = .returned (.tuple #[.pointer (some ⟨ga, 0, none⟩), .int .i64 0]) ∧ AreaAt w' ga p.d 0 6 ∧ w1.heap.size ≤ ga ∧ DiskS w' w.heap.size p D ∧ Step mutD w.heap.size p w1 w' := fun h hs => s_anew h hs 0 6 (by omega) (by rw [hmany]; omega)
  have hnb : ∀ {w1 : World} {p : DiskP}, DiskS w1 w.heap.size p D → w.heap.size ≤ w1.heap.size → Calls Try.prog 46 #[.pointer (some ⟨p.d, 0, none⟩), .agg #[.int .i64 6, .int .i64 6]] w1 fun e w' => ∃ ga, e = .returned (.tuple #[.pointer (some ⟨ga, 0, none⟩), .int .i64 0]) ∧ AreaAt w' ga p.d 6 6 ∧ w1.heap.size ≤ ga ∧ DiskS w' w.heap.size p D ∧ Step mutD w.heap.size p w1 w' := fun h hs => s_anew h hs 6 6 (by omega) (by rw [hmany]; omega)
  go_enter Try.func39, Try.ntmps39
  go_wp2_with (first
    | ((go_at_call 45; (with_reducible refine (hld).mono ?_); rintro e w1 ⟨p, rfl, h1, b1⟩); have H1 := Lib.hid h1; have s1 := b1.size; clear h1)
    | ((go_at_call 46; (with_reducible refine (hna H1.out s1).mono ?_); rintro e w2 ⟨ga, rfl, ha2, hg2, h2, s2⟩); have H2 := Lib.hid h2; have A2 := Lib.hid ha2; have z2 := s2.size; clear h2 ha2)
    | ((go_at_call 46; (with_reducible refine (hnb H2.out (by omega)).mono ?_); rintro e w3 ⟨gb, rfl, hb3, hg3, h3, s3⟩); have H3 := Lib.hid h3; have B3 := Lib.hid hb3; have A3 := Lib.hid (H2.out.area A2.out s3.tch (by decide)); clear h3 hb3)
    | fail "no arm")
  go_returns
  exact ⟨p, ga, gb, rfl, H3.out, A3.out, B3.out, (b1.trans s2.bel).trans s3.bel, Nat.le_refl _⟩
/-- A program that is made anew. -/
def ProgNew (w : World) (P : PV) (e : Ending) (w' : World) : Prop := ∃ x : PA, e = .returned (.agg #[.slice x.A1 x.n1 x.c1, .slice x.A2 x.n2 x.c2, .int .i64 P.regs, .slice x.A3 x.n3 x.c3, .slice x.A4 x.n4 x.c4]) ∧ (∀ base, ProgAt w' base x P) ∧ Below w.heap.size w w'
theorem delay_at {W : World} {g1 g2 g3 g4 : Nat} (b1 : Blk W g1 3 [.int .i64 1]) (b2 : Blk W g2 3 [.int .i64 1]) (b3 : Blk W g3 160 [.int .i64 1, .int .i64 0])
    (b4 : Blk W g4 162 [.int .i64 28, .int .i64 0, .int .i64 0, .int .i64 0, .int .i64 0, .int .i64 21, .int .i64 1, .int .i64 0, .int .i64 0, .int .i64 0, .int .i64 32, .int .i64 0, .int .i64 0, .int .i64 0, .int .i64 0, .int .i64 29, .int .i64 1, .int .i64 0, .int .i64 0, .int .i64 0]) (base : Nat) :
    ProgAt W base ⟨some ⟨g1, 0, none⟩, 1, 1, some ⟨g2, 0, none⟩, 1, 1, some ⟨g3, 0, none⟩, 1, 1, some ⟨g4, 0, none⟩, 4, 4⟩ delayP := by
  have mx : ∀ n : Nat, n ≤ 4 → n ≤ n ∧ n ≤ maxLen := fun n hn => ⟨Nat.le_refl _, by unfold maxLen; omega⟩
  refine ⟨⟨(Rd.of_block (enc := iv) (l := [1]) b1 rfl).ri, (Rd.of_block (enc := iv) (l := [1]) b2 rfl).ri, RdS.of_block b3 cellE_len (l := [(1, 0)]) rfl, RdS.of_block b4 insE_len (l := [⟨28, 0, 0, 0, 0⟩, ⟨21, 1, 0, 0, 0⟩, ⟨32, 0, 0, 0, 0⟩, ⟨29, 1, 0, 0, 0⟩]) rfl, mx 1 (by omega), mx 1 (by omega), mx 1 (by omega), mx 4 (by omega)⟩, fun _ g hg => ?_, fun _ g hg => ?_, fun _ g hg => ?_, fun _ g hg => ?_⟩
  · simp only [Option.map_some, Option.some.injEq] at hg; subst hg; exact .inr ⟨_, b1⟩
  · simp only [Option.map_some, Option.some.injEq] at hg; subst hg; exact .inr ⟨_, b2⟩
  · simp only [Option.map_some, Option.some.injEq] at hg; subst hg; exact .inr ⟨_, b3⟩
  · simp only [Option.map_some, Option.some.injEq] at hg; subst hg; exact .inr ⟨_, b4⟩
theorem delay_any (w : World) : Calls Try.prog 41 #[] w (ProgNew w delayP) := by
  go_enter Try.func41, Try.ntmps41
  go_wp2
  refine bodyPost_ret (v := .agg #[.slice (some ⟨w.heap.size + 1, 0, none⟩) 1 1, .slice (some ⟨w.heap.size + 1 + 1, 0, none⟩) 1 1, .int .i64 2, .slice (some ⟨w.heap.size + 1 + 1 + 1, 0, none⟩) 1 1, .slice (some ⟨w.heap.size + 1 + 1 + 1 + 1, 0, none⟩) 4 4]) (by simp [results, Try.results41, go_sem]) rfl ?_
  refine ⟨_, rfl, fun base => delay_at (g1 := w.heap.size + 1) (g2 := w.heap.size + 1 + 1) (g3 := w.heap.size + 1 + 1 + 1) (g4 := w.heap.size + 1 + 1 + 1 + 1) ?_ ?_ ?_ ?_ base, (by (repeat' (first | (with_reducible exact Below.refl _ _) | (with_reducible assumption) | (with_reducible refine Below.drew ?_) | (with_reducible refine below_drewN ?_ _) | (with_reducible refine Below.alloc ?_ ?_ _) | (with_reducible refine Below.setCell ?_ ?_ _) | omega | (simp; done) | (simp; omega))))⟩
  · exact (((Blk.top _ (by simp) rfl).alloc _).alloc _).alloc _
  · exact ((Blk.top _ (by simp) rfl).alloc _).alloc _
  · exact (Blk.top _ (by simp) rfl).alloc _
  · exact Blk.top _ (by simp) rfl
end Go.Proofs.Ytalmdccgpigppaa
