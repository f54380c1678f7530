/- The journal's laws: made, the chapter's example. The journal's laws: lists of slices of bytes; begins, loads. -/
import Derived.Test.YtalmdccgpigppaaJrnC
import Derived.Test.YtalmdccgpigppaaDiskO
import Derived.Test.YtalmdccgpigppaaMem
namespace Go.Proofs.Ytalmdccgpigppaa
open Go.RowKit
set_option linter.unusedVariables false
set_option linter.unusedSimpArgs false
section
variable {w w' : World} {base ga gj f m next : Nat} {kind : Int} {p : DiskP} {D : DiskV}
theorem JrnAt.alloc (h : JrnAt w gj ga kind next) (o : Obj) : JrnAt (w.alloc o) gj ga kind next := Blk.alloc h o
theorem AreaAt.alloc {d : Nat} (h : AreaAt w ga d f m) (o : Obj) : AreaAt (w.alloc o) ga d f m := Blk.alloc h o
theorem JrnAt.below (h : JrnAt w gj ga kind next) (hb : Below w.heap.size w w') : JrnAt w' gj ga kind next := Blk.below h hb h.lt
theorem DiskS.alloc (h : DiskS w base p D) (o : Obj) : DiskS (w.alloc o) base p D := h.below ((Below.refl _ _).alloc (Nat.le_refl _) o)
theorem s_anew (h : DiskS w base p D) (hs : base ≤ w.heap.size) (f m : Nat) (h1 : 1 ≤ m) (h2 : f + m ≤ D.many) :
    Calls Try.prog 46 #[.pointer (some ⟨p.d, 0, none⟩), .agg #[.int .i64 (f : Int), .int .i64 (m : Int)]] w fun e w' => ∃ ga, e = .returned (.tuple #[.pointer (some ⟨ga, 0, none⟩), .int .i64 0]) ∧ AreaAt w' ga p.d f m ∧ w.heap.size ≤ ga ∧ DiskS w' base p D ∧ Step mutD base p w w' := by
  obtain ⟨A, c, h⟩ := h
  exact (anew_ok h f m h1 h2).mono fun e w' ⟨ga, h1, h2, h3, h4⟩ => ⟨ga, h1, h2, h3, (h.below h4).s, Step.of_below h4 hs⟩
theorem jopen_ok (ha : AreaAt w ga p.d f m) (hm : 1 ≤ m) (hd : DiskS w base p D) (hs : base ≤ w.heap.size) (hfm : f + m ≤ D.many) (hwt : D.waits.length < 900000) {D' : DiskV} {next : Nat} (h : jOpenV D f m kind = (D', next, 0)) :
    Calls Try.prog 61 #[.pointer (some ⟨ga, 0, none⟩), .int .i64 kind] w fun e w' => ∃ gj, e = .returned (.tuple #[.pointer (some ⟨gj, 0, none⟩), .int .i64 0]) ∧ w.heap.size ≤ gj ∧ JrnAt w' gj ga kind next ∧ DiskS w' base p D' ∧ Step mutD base p w w' := by
  have := jopen_any (kind := kind) ha hm hd hs hfm hwt
  rw [h] at this
  exact this.mono fun e w' ⟨P, h1, _, h3, h4, h5⟩ => by
    obtain ⟨gj, e1, e2, e3⟩ := h3 rfl
    subst e1
    exact ⟨gj, h1, e2, e3, h4, h5⟩
end
def Made9 (w : World) (D : DiskV) (e : Ending) (w' : World) : Prop := ∃ p ga, e = .returned (.tuple #[.pointer (some ⟨p.d, 0, none⟩), .pointer (some ⟨ga, 0, none⟩)]) ∧ DiskS w' w.heap.size p D ∧ AreaAt w' ga p.d 1 8 ∧ Below w.heap.size w w'
def D9a : DiskV := loadD 10 10 [] 0
def D9b : DiskV := (jOpenV D9a 1 8 3).1
def D9c : DiskV := (jAddV D9b 1 8 3 0 [7]).1
def D9d : DiskV := (jAddV D9c 1 8 3 1 []).1
def D9e : DiskV := (flushV D9d).1
def D9f : DiskV := (jOpenV D9e 1 8 3).1
theorem d9_facts : (jOpenV D9a 1 8 3).2 = (0, 0) ∧ (jAddV D9b 1 8 3 0 [7]).2 = (1, 0, 0) ∧ (jAddV D9c 1 8 3 1 []).2 = (2, 1, 0) ∧ (flushV D9d).2 = 0 ∧ (jOpenV D9e 1 8 3).2 = (2, 0) ∧ (jGetV D9f 1 8 3 2 0).2 = ([7], 0) := by decide +kernel
theorem d9_many : D9a.many = 10 ∧ D9b.many = 10 ∧ D9c.many = 10 ∧ D9d.many = 10 ∧ D9e.many = 10 ∧ D9f.many = 10 := by decide +kernel
theorem d9_waits : D9a.waits.length = 0 ∧ D9b.waits.length = 0 ∧ D9c.waits.length = 1 ∧ D9e.waits.length = 0 := by decide +kernel
end Go.Proofs.Ytalmdccgpigppaa
namespace Go.Proofs.Ytalmdccgpigppaa
open Go.RowKit
set_option linter.unusedVariables false
set_option linter.unusedSimpArgs false
structure SlV where
  a : Option Addr
  n : Nat
  c : Nat
def slV (h : SlV) : Value := .slice h.a h.n h.c
theorem slV_one (h : SlV) : (slV h).oneCell' = true := rfl
theorem elemHdr : ElemOf Try.prog 23 26 (.slice none 0 0) 1 24 := ElemOf.mk' Try.underlying23 (by kernel_rfl) rfl (by decide)
theorem hdr_rd (w : World) (h : SlV) : Rd slV (w.alloc (.cells #[.slice h.a h.n h.c] 26)) (some ⟨w.heap.size, 0, none⟩) 1 [h] := Rd.of_block (l := [h]) (heap_top _ _ rfl) rfl
/-- A slice of slices of bytes that reads as a list of lists. -/
def LsRd (w : World) (B : Option Addr) (N : Nat) (Ls : List (List UInt8)) : Prop := Ls.length = N ∧ ∃ hs : List SlV, Rd slV w B N hs ∧ ∀ (k : Nat) (h : SlV) (L : List UInt8), hs[k]? = some h → Ls[k]? = some L → RB w h.a h.n L ∧ h.n ≤ maxLen
def LsOw (w : World) (b : Nat) (B : Option Addr) (N c : Nat) (Ls : List (List UInt8)) : Prop := Ls.length = N ∧ ∃ hs : List SlV, Ow slV w b 26 B N c hs ∧ ∀ (k : Nat) (h : SlV) (L : List UInt8), hs[k]? = some h → Ls[k]? = some L → ∃ b', OB w b' 5 h.a h.n h.c L
section
variable {w w' : World} {b N c n : Nat} {B : Option Addr} {Ls : List (List UInt8)}
theorem LsOw.rd (h : LsOw w b B N c Ls) : LsRd w B N Ls := by
  obtain ⟨hl, hs, ho, hk⟩ := h
  refine ⟨hl, hs, ho.rd, fun k x L h1 h2 => ?_⟩
  obtain ⟨b', hb⟩ := hk k x L h1 h2
  have := hb.cap
  exact ⟨hb.rd.rb, by omega⟩
theorem LsRd.below {B0 : Nat} (h : LsRd w B N Ls) (hb : Below B0 w w') (hB : w.heap.size ≤ B0) : LsRd w' B N Ls := by
  obtain ⟨hl, hs, ho, hk⟩ := h
  exact ⟨hl, hs, ho.below hb hB, fun k x L h1 h2 => ⟨(hk k x L h1 h2).1.below hb hB, (hk k x L h1 h2).2⟩⟩
theorem LsOw.below (h : LsOw w b B N c Ls) (hb : Below w.heap.size w w') : LsOw w' b B N c Ls := by
  obtain ⟨hl, hs, ho, hk⟩ := h
  exact ⟨hl, hs, ho.below hb (Nat.le_refl _), fun k x L h1 h2 => by obtain ⟨b', q⟩ := hk k x L h1 h2; exact ⟨b', q.below hb (Nat.le_refl _)⟩⟩
theorem LsOw.touch {M : List TypeId} {base : Nat} {p : DiskP} {D : DiskV} (h : LsOw w b B N c Ls) (hd : DiskS w base p D) (k : Touch M p w w') (h1 : 26 ∉ 4 :: M) (h2 : 5 ∉ 4 :: M) : LsOw w' b B N c Ls := by
  obtain ⟨hl, hs, ho, hk⟩ := h
  exact ⟨hl, hs, hd.ow ho k h1, fun k' x L q1 q2 => by obtain ⟨b', q⟩ := hk k' x L q1 q2; exact ⟨b', hd.ow q k h2⟩⟩
theorem LsOw.rebase {b0 : Nat} (h : LsOw w b B N c Ls) (hb : b0 ≤ b) : LsOw w b0 B N c Ls := by
  obtain ⟨hl, hs, ho, hk⟩ := h
  exact ⟨hl, hs, ho.rebase hb, hk⟩
theorem LsOw.nil (w : World) (b : Nat) : LsOw w b none 0 0 [] := ⟨rfl, [], Ow.nil _ _ _ _, fun k h L h1 => by simp at h1⟩
/-- An own row is as it was where another own row, of another kind, has grown. -/
theorem Ow.grownOw {α β : Type} {enc : α → Value} {enc' : β → Value} {b' n c' : Nat} {e e' : TypeId} {B' : Option Addr} {l : List α} {l' : List β} (ho : Ow enc w b' e B' n c' l) {bb m cc : Nat} {C : Option Addr} (hB : Ow enc' w bb e' C m cc l') (hg : w.grownBy w' (C.map (·.block))) (hne : e ≠ e') : Ow enc w' b' e B' n c' l := by
  refine ⟨ho.1, own_keep (F := fun g => C.map (·.block) = some g) ho.2 (Keep.of_grown hg (fun g e => e)) (fun g hg' he => ?_)⟩
  rcases hB.2.2 with ⟨hv, _⟩ | ⟨g', cap, cur, hv, _, hh, _⟩
  · injection hv with hv; subst hv; cases he
  · injection hv with hv
    subst hv
    simp only [Option.map_some, Option.some.injEq] at he
    subst he
    exact own_ne ho.2 (g := g') (t := e') (cs := cur.toList) (by unfold Blk; rw [hh]) hne hg'
end
/-- Does a list begin with another? -/
def begB (l a : List (List UInt8)) : Bool := decide (a.take l.length = l)
theorem begB_long {l a : List (List UInt8)} (h : a.length < l.length) : begB l a = false := by
  unfold begB
  rw [decide_eq_false_iff_not]
  intro e
  have := congrArg List.length e
  rw [List.length_take] at this
  omega
theorem begB_self (l : List (List UInt8)) : begB l l = true := by unfold begB; rw [List.take_length]; exact decide_eq_true rfl
section
variable {w w' : World} {base ga gj f m next : Nat} {kind : Int} {p : DiskP} {D : DiskV}
end
end Go.Proofs.Ytalmdccgpigppaa
