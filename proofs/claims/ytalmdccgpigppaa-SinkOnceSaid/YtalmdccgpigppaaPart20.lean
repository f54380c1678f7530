/- Parts: JrnD, Lists, Region, RowA. -/
import Derived.Test.YtalmdccgpigppaaPart15
import Derived.Test.YtalmdccgpigppaaPart19
import Derived.Test.YtalmdccgpigppaaPart01
import Derived.Test.YtalmdccgpigppaaPart00
import Derived.StillTail
import Derived.BigQuiet
import Derived.Test.YtalmdccgpigppaaPart18
namespace Go.Proofs.Ytalmdccgpigppaa
open Go.RowKit
set_option linter.unusedVariables false
set_option linter.unusedSimpArgs false
section
variable {w w' : World} {base ga gj f m next : Nat} {kind : Int} {p : DiskP} {D : DiskV}
theorem JrnAt.alloc (h : JrnAt w gj ga kind next) (o : Obj) : JrnAt (w.alloc o) gj ga kind next := Blk.alloc h o
theorem AreaAt.alloc {d : Nat} (h : AreaAt w ga d f m) (o : Obj) : AreaAt (w.alloc o) ga d f m := Blk.alloc h o
theorem JrnAt.below (h : JrnAt w gj ga kind next) (hb : Below w.heap.size w w') : JrnAt w' gj ga kind next := Blk.below h hb h.lt
theorem DiskS.alloc (h : DiskS w base p D) (o : Obj) : DiskS (w.alloc o) base p D := h.below ((Below.refl _ _).alloc (Nat.le_refl _) o)
theorem s_anew (h : DiskS w base p D) (hs : base ≤ w.heap.size) (f m : Nat) (h1 : 1 ≤ m) (h2 : f + m ≤ D.many) :
    Calls Try.prog 46 #[.pointer (some ⟨p.d, 0, none⟩), .agg #[.int .i64 (f : Int), .int .i64 (m : Int)]] w fun e w' => ∃ ga, e = .returned (.tuple #[.pointer (some ⟨ga, 0, none⟩), .int .i64 0]) ∧ AreaAt w' ga p.d f m ∧ w.heap.size ≤ ga ∧ DiskS w' base p D ∧ Step mutD base p w w' := by
  obtain ⟨A, c, h⟩ := h
  exact (anew_ok h f m h1 h2).mono fun e w' ⟨ga, h1, h2, h3, h4⟩ => ⟨ga, h1, h2, h3, (h.below h4).s, Step.of_below h4 hs⟩
theorem jopen_ok (ha : AreaAt w ga p.d f m) (hm : 1 ≤ m) (hd : DiskS w base p D) (hs : base ≤ w.heap.size) (hfm : f + m ≤ D.many) (hwt : D.waits.length < 900000) {D' : DiskV} {next : Nat} (h : jOpenV D f m kind = (D', next, 0)) :
    Calls Try.prog 61 #[.pointer (some ⟨ga, 0, none⟩), .int .i64 kind] w fun e w' => ∃ gj, e = .returned (.tuple #[.pointer (some ⟨gj, 0, none⟩), .int .i64 0]) ∧ w.heap.size ≤ gj ∧ JrnAt w' gj ga kind next ∧ DiskS w' base p D' ∧ Step mutD base p w w' := by
  have := jopen_any (kind := kind) ha hm hd hs hfm hwt
  rw [h] at this
  exact this.mono fun e w' ⟨P, h1, _, h3, h4, h5⟩ => by
    obtain ⟨gj, e1, e2, e3⟩ := h3 rfl
    subst e1
    exact ⟨gj, h1, e2, e3, h4, h5⟩
end
def Made9 (w : World) (D : DiskV) (e : Ending) (w' : World) : Prop := ∃ p ga, e = .returned (.tuple #[.pointer (some ⟨p.d, 0, none⟩), .pointer (some ⟨ga, 0, none⟩)]) ∧ DiskS w' w.heap.size p D ∧ AreaAt w' ga p.d 1 8 ∧ Below w.heap.size w w'
def D9a : DiskV := loadD 10 10 [] 0
def D9b : DiskV := (jOpenV D9a 1 8 3).1
def D9c : DiskV := (jAddV D9b 1 8 3 0 [7]).1
def D9d : DiskV := (jAddV D9c 1 8 3 1 []).1
def D9e : DiskV := (flushV D9d).1
def D9f : DiskV := (jOpenV D9e 1 8 3).1
theorem d9_facts : (jOpenV D9a 1 8 3).2 = (0, 0) ∧ (jAddV D9b 1 8 3 0 [7]).2 = (1, 0, 0) ∧ (jAddV D9c 1 8 3 1 []).2 = (2, 1, 0) ∧ (flushV D9d).2 = 0 ∧ (jOpenV D9e 1 8 3).2 = (2, 0) ∧ (jGetV D9f 1 8 3 2 0).2 = ([7], 0) := by decide +kernel
theorem d9_many : D9a.many = 10 ∧ D9b.many = 10 ∧ D9c.many = 10 ∧ D9d.many = 10 ∧ D9e.many = 10 ∧ D9f.many = 10 := by decide +kernel
theorem d9_waits : D9a.waits.length = 0 ∧ D9b.waits.length = 0 ∧ D9c.waits.length = 1 ∧ D9e.waits.length = 0 := by decide +kernel
end Go.Proofs.Ytalmdccgpigppaa
namespace Go.Proofs.Ytalmdccgpigppaa
open Go.RowKit
set_option linter.unusedVariables false
set_option linter.unusedSimpArgs false
structure SlV where
  a : Option Addr
  n : Nat
  c : Nat
def slV (h : SlV) : Value := .slice h.a h.n h.c
theorem slV_one (h : SlV) : (slV h).oneCell' = true := rfl
theorem elemHdr : ElemOf Try.prog 23 26 (.slice none 0 0) 1 24 := ElemOf.mk' Try.underlying23 (by kernel_rfl) rfl (by decide)
theorem hdr_rd (w : World) (h : SlV) : Rd slV (w.alloc (.cells #[.slice h.a h.n h.c] 26)) (some ⟨w.heap.size, 0, none⟩) 1 [h] := Rd.of_block (l := [h]) (heap_top _ _ rfl) rfl
/-- A slice of slices of bytes that reads as a list of lists. -/
def LsRd (w : World) (B : Option Addr) (N : Nat) (Ls : List (List UInt8)) : Prop := Ls.length = N ∧ ∃ hs : List SlV, Rd slV w B N hs ∧ ∀ (k : Nat) (h : SlV) (L : List UInt8), hs[k]? = some h → Ls[k]? = some L → RB w h.a h.n L ∧ h.n ≤ maxLen
def LsOw (w : World) (b : Nat) (B : Option Addr) (N c : Nat) (Ls : List (List UInt8)) : Prop := Ls.length = N ∧ ∃ hs : List SlV, Ow slV w b 26 B N c hs ∧ ∀ (k : Nat) (h : SlV) (L : List UInt8), hs[k]? = some h → Ls[k]? = some L → ∃ b', OB w b' 5 h.a h.n h.c L
section
variable {w w' : World} {b N c n : Nat} {B : Option Addr} {Ls : List (List UInt8)}
theorem LsOw.rd (h : LsOw w b B N c Ls) : LsRd w B N Ls := by
  obtain ⟨hl, hs, ho, hk⟩ := h
  refine ⟨hl, hs, ho.rd, fun k x L h1 h2 => ?_⟩
  obtain ⟨b', hb⟩ := hk k x L h1 h2
  have := hb.cap
  exact ⟨hb.rd.rb, by omega⟩
theorem LsRd.below {B0 : Nat} (h : LsRd w B N Ls) (hb : Below B0 w w') (hB : w.heap.size ≤ B0) : LsRd w' B N Ls := by
  obtain ⟨hl, hs, ho, hk⟩ := h
  exact ⟨hl, hs, ho.below hb hB, fun k x L h1 h2 => ⟨(hk k x L h1 h2).1.below hb hB, (hk k x L h1 h2).2⟩⟩
theorem LsOw.below (h : LsOw w b B N c Ls) (hb : Below w.heap.size w w') : LsOw w' b B N c Ls := by
  obtain ⟨hl, hs, ho, hk⟩ := h
  exact ⟨hl, hs, ho.below hb (Nat.le_refl _), fun k x L h1 h2 => by obtain ⟨b', q⟩ := hk k x L h1 h2; exact ⟨b', q.below hb (Nat.le_refl _)⟩⟩
theorem LsOw.touch {M : List TypeId} {base : Nat} {p : DiskP} {D : DiskV} (h : LsOw w b B N c Ls) (hd : DiskS w base p D) (k : Touch M p w w') (h1 : 26 ∉ 4 :: M) (h2 : 5 ∉ 4 :: M) : LsOw w' b B N c Ls := by
  obtain ⟨hl, hs, ho, hk⟩ := h
  exact ⟨hl, hs, hd.ow ho k h1, fun k' x L q1 q2 => by obtain ⟨b', q⟩ := hk k' x L q1 q2; exact ⟨b', hd.ow q k h2⟩⟩
theorem LsOw.rebase {b0 : Nat} (h : LsOw w b B N c Ls) (hb : b0 ≤ b) : LsOw w b0 B N c Ls := by
  obtain ⟨hl, hs, ho, hk⟩ := h
  exact ⟨hl, hs, ho.rebase hb, hk⟩
theorem LsOw.nil (w : World) (b : Nat) : LsOw w b none 0 0 [] := ⟨rfl, [], Ow.nil _ _ _ _, fun k h L h1 => by simp at h1⟩
/-- An own row is as it was where another own row, of another kind, has grown. -/
theorem Ow.grownOw {α β : Type} {enc : α → Value} {enc' : β → Value} {b' n c' : Nat} {e e' : TypeId} {B' : Option Addr} {l : List α} {l' : List β} (ho : Ow enc w b' e B' n c' l) {bb m cc : Nat} {C : Option Addr} (hB : Ow enc' w bb e' C m cc l') (hg : w.grownBy w' (C.map (·.block))) (hne : e ≠ e') : Ow enc w' b' e B' n c' l := by
  refine ⟨ho.1, own_keep (F := fun g => C.map (·.block) = some g) ho.2 (Keep.of_grown hg (fun g e => e)) (fun g hg' he => ?_)⟩
  rcases hB.2.2 with ⟨hv, _⟩ | ⟨g', cap, cur, hv, _, hh, _⟩
  · injection hv with hv; subst hv; cases he
  · injection hv with hv
    subst hv
    simp only [Option.map_some, Option.some.injEq] at he
    subst he
    exact own_ne ho.2 (g := g') (t := e') (cs := cur.toList) (by unfold Blk; rw [hh]) hne hg'
end
/-- Does a list begin with another? -/
def begB (l a : List (List UInt8)) : Bool := decide (a.take l.length = l)
theorem begB_long {l a : List (List UInt8)} (h : a.length < l.length) : begB l a = false := by
  unfold begB
  rw [decide_eq_false_iff_not]
  intro e
  have := congrArg List.length e
  rw [List.length_take] at this
  omega
theorem begB_self (l : List (List UInt8)) : begB l l = true := by unfold begB; rw [List.take_length]; exact decide_eq_true rfl
section
variable {w w' : World} {base ga gj f m next : Nat} {kind : Int} {p : DiskP} {D : DiskV}
end
end Go.Proofs.Ytalmdccgpigppaa
namespace Go.Proofs.Ytalmdccgpigppaa
open Go.RowKit Go.WideShapes Go.ChangeShapes Go.Deep Go.Joins
set_option linter.unusedVariables false
set_option linter.unusedSimpArgs false
section
variable {H : Type} {enc : TypeId × Value → H} {P : Program} {w : World} {base b0 : Nat} {held : Bool} {r : Reach} {v : Value} {d : DataW H} {ps : List MemPlace}
theorem args_lists {t e b : TypeId} (ht : P.underlying t = some (.slice e)) (he : P.underlying e = some (.slice b)) (hb : P.underlying b = some (.int .u8)) (hcb : P.cellsOf b = 1) (hce : P.cellsOf e = 1)
    (hval : Value.okWide P w r b0 t v) (hd : DataW.Trod enc P w base (fun _ => true) held t v d ps) :
    ∃ A n c l, v = .slice A n c ∧ LsRd w A n l ∧ n ≤ c ∧ c ≤ maxLen := by
  obtain ⟨a0, len, cap, rfl⟩ := okWide_slice ht hval
  obtain ⟨fuel, hf⟩ := hd
  rcases open_slice1 ht hce hf with ⟨hcs, _⟩ | ⟨x, l, c, m, nf, V, D, Pl, hcs, _, hl, hm, hmm, _, hat⟩
  · simp [Value.cells] at hcs
    obtain ⟨rfl, rfl, rfl⟩ := hcs
    exact ⟨none, 0, 0, [], rfl, ⟨rfl, [], Rd.nil _ _ _, fun k h L h1 => by simp at h1⟩, Nat.le_refl _, by unfold maxLen; omega⟩
  · simp [Value.cells] at hcs
    obtain ⟨rfl, rfl, rfl⟩ := hcs
    simp only [if_true] at hmm
    have hx : ∀ i, i < len → ∃ q : SlV × List UInt8, V i = slV q.1 ∧ RB w q.1.a q.1.n q.2 ∧ q.1.n ≤ maxLen := by
      intro i hi
      obtain ⟨_, htr⟩ := hat i (by omega)
      obtain ⟨B, k, c', L, e1, r1, k1, m1⟩ := trod_bytes he hb hcb htr
      exact ⟨(⟨B, k, c'⟩, L), e1, r1, by show k ≤ maxLen; omega⟩
    obtain ⟨l, hl', hp⟩ := list_of hx
    refine ⟨some x, len, cap, l.map (·.2), rfl, ⟨by simpa using hl', l.map (·.1), ⟨by simpa using hl', fun h0 => ?_⟩, fun k h L h1 h2 => ?_⟩, hl, hm⟩
    · obtain ⟨c0, _⟩ := hat 0 (by omega)
      have hs : x.spot = none := spot_none (a := x) (by simpa [Addr.add] using c0)
      obtain ⟨bb, o, s⟩ := x
      simp only at hs
      subst hs
      have hadd : ∀ q, (⟨bb, o, none⟩ : Addr).add q = ⟨bb, o + q, none⟩ := fun q => by unfold Addr.add; split <;> simp_all
      refine ⟨bb, o, rfl, World.block_lt_of_cell? w ⟨bb, o, none⟩ (by simpa [Addr.add] using c0), fun i hi => ?_⟩
      obtain ⟨ci, _⟩ := hat i (by omega)
      rw [hadd] at ci
      have hil : i < l.length := by omega
      obtain ⟨e1, _⟩ := hp i _ (List.getElem?_eq_getElem hil)
      rw [ci, e1]
      show _ = some ((((l.map (·.1)).map slV)).getD i undef)
      rw [List.getD_eq_getElem?_getD, List.getElem?_map, List.getElem?_map, List.getElem?_eq_getElem hil]; rfl
    · rw [List.getElem?_map] at h1 h2
      cases hk : l[k]? with
      | none => rw [hk] at h1; cases h1
      | some q =>
        rw [hk] at h1 h2
        simp only [Option.map_some, Option.some.injEq] at h1 h2
        subst h1 h2
        exact (hp k q hk).2
set_option maxRecDepth 100000 in
theorem args_ll (hval : Value.okWide Try.prog w r b0 23 v) (hd : DataW.Trod enc Try.prog w base (fun _ => true) held 23 v d ps) : ∃ A n c l, v = .slice A n c ∧ LsRd w A n l ∧ n ≤ c ∧ c ≤ maxLen :=
  args_lists Try.underlying23 Try.underlying26 Try.underlying5 (by kernel_rfl) (by kernel_rfl) hval hd
end
/-- A row's block is not changed: it is older, or of a type that nothing changes. -/
def Rests (w : World) (base : Nat) (t : TypeId) (A : Option Addr) : Prop := ∀ g, A.map (·.block) = some g → g < base ∨ ∃ cs, Blk w g t cs
def BytesAt (w : World) (base : Nat) (h : SlV) (L : List UInt8) : Prop := RB w h.a h.n L ∧ h.n ≤ maxLen ∧ (0 < h.n → Rests w base 5 h.a)
theorem Row.sameB {w w' : World} {A : Option Addr} {n : Nat} {f : Nat → Value} (h : Row w A n f) (hs : w.heap.size ≤ w'.heap.size) (hF : ∀ b, A.map (·.block) = some b → b < w.heap.size → w'.heap[b]? = w.heap[b]?) : Row w' A n f := fun h0 => by
  obtain ⟨b, o, rfl, hb, hc⟩ := h h0
  refine ⟨b, o, rfl, Nat.lt_of_lt_of_le hb hs, fun i hi => ?_⟩
  rw [← hc i hi]
  have := hF b rfl hb
  simp only [World.cell?, this]
section
variable {M : List TypeId} {w w' : World} {base : Nat} {p : DiskP} {D : DiskV} {t : TypeId} {A : Option Addr} {n : Nat}
theorem Rests.step (h : Rests w base t A) (hd : DiskS w base p D) (k : Step M base p w w') (ht : t ∉ 4 :: M) : Rests w' base t A := fun g hg => by
  rcases h g hg with q | ⟨cs, q⟩
  · exact .inl q
  · exact .inr ⟨cs, hd.blk q k.tch ht⟩
theorem Rests.heap (h : Rests w base t A) (hd : DiskS w base p D) (k : Step M base p w w') (ht : t ∉ 4 :: M) : ∀ b, A.map (·.block) = some b → b < w.heap.size → w'.heap[b]? = w.heap[b]? := fun b hb _ => by
  rcases h b hb with q | ⟨cs, q⟩
  · exact k.bel.block b q
  · exact Eq.trans (hd.blk q k.tch ht) (Eq.symm q)
theorem Row.stepR {f : Nat → Value} (h : Row w A n f) (hr : 0 < n → Rests w base t A) (hd : DiskS w base p D) (k : Step M base p w w') (ht : t ∉ 4 :: M) : Row w' A n f := fun h0 => (h.sameB k.size ((hr h0).heap hd k ht)) h0
theorem BytesAt.step {h : SlV} {L : List UInt8} (H : BytesAt w base h L) (hd : DiskS w base p D) (k : Step M base p w w') (ht : 5 ∉ 4 :: M) : BytesAt w' base h L :=
  ⟨⟨H.1.1, H.1.2.stepR H.2.2 hd k ht⟩, H.2.1, fun h0 => (H.2.2 h0).step hd k ht⟩
theorem BytesAt.below {h : SlV} {L : List UInt8} (H : BytesAt w base h L) (hb : Below w.heap.size w w') : BytesAt w' base h L :=
  ⟨H.1.below hb (Nat.le_refl _), H.2.1, fun h0 g hg => by
    rcases H.2.2 h0 g hg with q | ⟨cs, q⟩
    · exact .inl q
    · exact .inr ⟨cs, q.below hb q.lt⟩⟩
theorem BytesAt.old {h : SlV} {L : List UInt8} {w0 : World} (H : RB w0 h.a h.n L) (hm : h.n ≤ maxLen) (hb : Below w0.heap.size w0 w) (hs : w0.heap.size ≤ base) : BytesAt w base h L :=
  ⟨H.below hb (Nat.le_refl _), hm, fun h0 g hg => by
    obtain ⟨b, o, e, q, _⟩ := H.2 h0
    rw [e] at hg
    simp only [Option.map_some, Option.some.injEq] at hg
    exact .inl (by omega)⟩
theorem Ow.blk {α : Type} {enc : α → Value} {c : Nat} {l : List α} (h : Ow enc w base t A n c l) {g : Nat} (hg : A.map (·.block) = some g) : ∃ cs, Blk w g t cs := by
  rcases h.2.2 with ⟨hv, _⟩ | ⟨g', cap, cur, hv, _, hh, _⟩
  · injection hv with hv; subst hv; cases hg
  · injection hv with hv
    subst hv
    simp only [Option.map_some, Option.some.injEq] at hg
    subst hg
    exact ⟨cur.toList, by unfold Blk; rw [hh]⟩
theorem BytesAt.of_ob {b : Nat} {h : SlV} {L : List UInt8} (H : OB w b 5 h.a h.n h.c L) : BytesAt w base h L :=
  ⟨H.rd.rb, by have := H.cap; omega, fun _ g hg => .inr (H.blk hg)⟩
theorem BytesAt.grown {α : Type} {enc : α → Value} {e : TypeId} {B : Option Addr} {m c : Nat} {l : List α} {h : SlV} {L : List UInt8} (H : BytesAt w base h L) (ho : Ow enc w base e B m c l) (he : e ≠ 5) (hg : w.grownBy w' (B.map (·.block))) : BytesAt w' base h L := by
  have hne : ∀ g, 0 < h.n → h.a.map (·.block) = some g → some g ≠ B.map (·.block) := fun g h0 hg e => by
    rcases H.2.2 h0 g hg with q | ⟨cs, q⟩
    · have := (ho.lt g e.symm).1; omega
    · exact ho.ne_ q he e.symm
  refine ⟨⟨H.1.1, fun h0 => (H.1.2.sameB hg.size (fun b hb hlt => hg.block b hlt (fun e => hne b h0 hb e))) h0⟩, H.2.1, fun h0 g hg' => ?_⟩
  rcases H.2.2 h0 g hg' with q | ⟨cs, q⟩
  · exact .inl q
  · exact .inr ⟨cs, q.grown hg (fun e => hne g h0 hg' e.symm)⟩
theorem Rd.take_ {α : Type} {enc : α → Value} {l : List α} {m : Nat} (h : Rd enc w A n l) (hm : m ≤ n) : Rd enc w A m (l.take m) :=
  ⟨by rw [List.length_take, h.1]; omega, (h.2.take hm).congr fun i hi => by
    show (l.map enc).getD i undef = ((l.take m).map enc).getD i undef
    rw [List.getD_eq_getElem?_getD, List.getD_eq_getElem?_getD, List.map_take, List.getElem?_take, if_pos hi]⟩
end
/-- What is sure, and all: two slices of slices of bytes, the first one the front of the other; they may share a row. -/
def Lists (w : World) (base : Nat) (sB : Option Addr) (sN : Nat) (aB : Option Addr) (aN ac : Nat) (sure all : List (List UInt8)) : Prop :=
  all.length = aN ∧ sure.length = sN ∧ all.take sN = sure ∧ sN ≤ aN ∧ ∃ hs : List SlV, Ow slV w base 26 aB aN ac hs ∧ (∀ (k : Nat) (h : SlV) (L : List UInt8), hs[k]? = some h → all[k]? = some L → BytesAt w base h L) ∧ Rd slV w sB sN (hs.take sN) ∧
    (0 < sN → ∀ g, sB.map (·.block) = some g → sB = aB ∨ (aB.map (·.block) ≠ some g ∧ ∃ cs, Blk w g 26 cs))
section
variable {M : List TypeId} {w w' : World} {base : Nat} {p : DiskP} {D : DiskV} {sB aB : Option Addr} {sN aN ac : Nat} {sure all : List (List UInt8)}
theorem Lists.nil (w : World) (base : Nat) : Lists w base none 0 none 0 0 [] [] := ⟨rfl, rfl, rfl, Nat.le_refl _, [], Ow.nil _ _ _ _, fun k h L h1 => by simp at h1, Rd.nil _ _ _, fun h => absurd h (by omega)⟩
theorem Lists.step (H : Lists w base sB sN aB aN ac sure all) (hd : DiskS w base p D) (k : Step M base p w w') (h1 : 26 ∉ 4 :: M) (h2 : 5 ∉ 4 :: M) : Lists w' base sB sN aB aN ac sure all := by
  obtain ⟨a1, a2, a3, a4, hs, ho, hi, hr, hx⟩ := H
  have ho' := hd.ow ho k.tch h1
  refine ⟨a1, a2, a3, a4, hs, ho', fun k' h L q1 q2 => (hi k' h L q1 q2).step hd k h2, ⟨hr.1, fun h0 => ?_⟩, fun h0 g hg => ?_⟩
  · obtain ⟨b, o, e, _⟩ := hr.2 h0
    have hg : sB.map (·.block) = some b := by rw [e]; rfl
    rcases hx h0 b hg with q | ⟨_, cs, q⟩
    · rw [q]; exact (ho'.rd.take_ a4).2 h0
    · exact (hr.2.sameB k.size (fun b' hb' _ => by
        rw [hg] at hb'
        injection hb' with hb'
        subst hb'
        exact Eq.trans (hd.blk q k.tch h1) (Eq.symm q))) h0
  · rcases hx h0 g hg with q | ⟨q1, cs, q⟩
    · exact .inl q
    · exact .inr ⟨q1, cs, hd.blk q k.tch h1⟩
theorem Lists.below (H : Lists w base sB sN aB aN ac sure all) (hb : Below w.heap.size w w') : Lists w' base sB sN aB aN ac sure all := by
  obtain ⟨a1, a2, a3, a4, hs, ho, hi, hr, hx⟩ := H
  refine ⟨a1, a2, a3, a4, hs, ho.below hb (Nat.le_refl _), fun k' h L q1 q2 => (hi k' h L q1 q2).below hb, hr.below hb (Nat.le_refl _), fun h0 g hg => ?_⟩
  rcases hx h0 g hg with q | ⟨q1, cs, q⟩
  · exact .inl q
  · exact .inr ⟨q1, cs, q.below hb q.lt⟩
theorem Lists.same (H : Lists w base sB sN aB aN ac sure all) : Lists w base aB aN aB aN ac all all := by
  obtain ⟨a1, a2, a3, a4, hs, ho, hi, hr, hx⟩ := H
  exact ⟨a1, a1, by rw [← a1, List.take_length], Nat.le_refl _, hs, ho, hi, ho.rd.take_ (Nat.le_refl _), fun _ _ _ => .inl rfl⟩
theorem Lists.cap (H : Lists w base sB sN aB aN ac sure all) : aN ≤ ac ∧ ac ≤ maxLen ∧ sN ≤ aN ∧ sure.length = sN ∧ all.length = aN := by
  obtain ⟨a1, a2, a3, a4, hs, ho, hi, hr, hx⟩ := H
  have := ho.cap
  exact ⟨this.1, this.2, a4, a2, a1⟩
theorem Lists.sureRd (H : Lists w base sB sN aB aN ac sure all) : LsRd w sB sN sure := by
  obtain ⟨a1, a2, a3, a4, hs, ho, hi, hr, hx⟩ := H
  refine ⟨a2, _, hr, fun k h L q1 q2 => ?_⟩
  rw [← a3] at q2
  rw [List.getElem?_take] at q1 q2
  split at q1
  · rename_i hk
    rw [if_pos hk] at q2
    exact ⟨(hi k h L q1 q2).1, (hi k h L q1 q2).2.1⟩
  · cases q1
theorem Lists.allRd (H : Lists w base sB sN aB aN ac sure all) : LsRd w aB aN all := by
  obtain ⟨a1, a2, a3, a4, hs, ho, hi, hr, hx⟩ := H
  exact ⟨a1, hs, ho.rd, fun k h L q1 q2 => ⟨(hi k h L q1 q2).1, (hi k h L q1 q2).2.1⟩⟩
theorem Lists.got {b : Nat} (H : LsOw w b aB aN ac all) (hb : base ≤ b) : Lists w base aB aN aB aN ac all all := by
  obtain ⟨hl, hs, ho, hk⟩ := H
  exact ⟨hl, hl, by rw [← hl, List.take_length], Nat.le_refl _, hs, ho.rebase hb, fun k h L q1 q2 => by obtain ⟨b', q⟩ := hk k h L q1 q2; exact BytesAt.of_ob q, ho.rd.take_ (Nat.le_refl _), fun _ _ _ => .inl rfl⟩
theorem Lists.app (H : Lists w base sB sN aB aN ac sure all) {h : SlV} {L : List UInt8} (hL : BytesAt w base h L) : ∃ hs : List SlV, Ow slV w base 26 aB aN ac hs ∧
    ∀ A' c' w', Ow slV w' base 26 A' (aN + 1) c' (hs ++ [h]) → w.grownBy w' (aB.map (·.block)) → (A'.map (·.block) = aB.map (·.block) ∨ (A'.map (·.block) = some w.heap.size ∧ Below w.heap.size w w')) → Lists w' base sB sN A' (aN + 1) c' sure (all ++ [L]) := by
  obtain ⟨a1, a2, a3, a4, hs, ho, hi, hr, hx⟩ := H
  refine ⟨hs, ho, fun A' c' w' ho' hg hc => ?_⟩
  have hhs := ho.1
  have htk : (hs ++ [h]).take sN = hs.take sN := List.take_append_of_le_length (by omega)
  refine ⟨by simp [a1], a2, by rw [List.take_append_of_le_length (by omega)]; exact a3, by omega, hs ++ [h], ho', fun k x X q1 q2 => ?_, ?_⟩
  · rcases Nat.lt_or_ge k aN with hk | hk
    · rw [List.getElem?_append_left (by omega)] at q1 q2
      exact (hi k x X q1 q2).grown ho (by decide) hg
    · have hk9 : k = aN := by
        have := (List.getElem?_eq_some_iff.1 q1).1
        rw [List.length_append, hhs, List.length_singleton] at this
        omega
      subst hk9
      rw [List.getElem?_append_right (by omega), hhs, Nat.sub_self] at q1
      rw [List.getElem?_append_right (by omega), a1, Nat.sub_self] at q2
      simp only [List.getElem?_cons_zero, Option.some.injEq] at q1 q2
      subst q1 q2
      exact hL.grown ho (by decide) hg
  · rw [htk]
    by_cases h0 : 0 < sN
    · obtain ⟨b, o, e, hlt, _⟩ := hr.2 h0
      have hgb : sB.map (·.block) = some b := by rw [e]; rfl
      rcases hx h0 b hgb with q | ⟨q1, cs, q⟩
      · rcases hc with c1 | ⟨c1, c2⟩
        · have : A' = aB := by
            obtain ⟨g1, e1, _, _⟩ := ho.addr (by omega)
            obtain ⟨g2, e2, _, _⟩ := ho'.addr (by omega)
            rw [e1, e2] at c1 ⊢
            simp only [Option.map_some, Option.some.injEq] at c1
            rw [c1]
          subst this
          refine ⟨?_, fun _ _ _ => .inl q⟩
          rw [q]
          have := ho'.rd.take_ (m := sN) (by omega)
          rwa [htk] at this
        · refine ⟨hr.below c2 (Nat.le_refl _), fun _ g hg' => .inr ⟨?_, ?_⟩⟩
          · rw [c1]
            intro e9
            rw [hgb] at hg'
            injection e9 with e9
            injection hg' with hg'
            omega
          · obtain ⟨cs, q3⟩ := ho.blk (g := g) (by rw [← q]; exact hg')
            exact ⟨cs, q3.below c2 q3.lt⟩
      · have hne : ∀ g, sB.map (·.block) = some g → g = b := fun g hg' => by rw [hgb] at hg'; injection hg' with hg'; exact hg'.symm
        refine ⟨⟨hr.1, hr.2.sameB hg.size (fun b' hb' hlt' => hg.block b' hlt' (fun e => by rw [hne b' hb'] at e; exact q1 e.symm))⟩, fun _ g hg' => .inr ?_⟩
        rw [hne g hg']
        refine ⟨?_, cs, q.grown hg q1⟩
        rcases hc with c1 | ⟨c1, _⟩
        · rw [c1]; exact q1
        · rw [c1]; intro e9; injection e9 with e9; omega
    · have : sN = 0 := by omega
      subst this
      exact ⟨Rd.nil _ _ _, fun h => absurd h (by omega)⟩
end
end Go.Proofs.Ytalmdccgpigppaa
namespace Go.Proofs.Ytalmdccgpigppaa
open Go.RowKit

section
variable {P : Program} {ops : Array Oper} {w : World}
theorem still_of_quiet {Q : Act → Prop} : ∀ (l : List Oper) (a : Act), wpQuiet P ops (fun w' => w' = w) Q l a → wpStill P ops w Q l a
  | [], _, h => h
  | o :: rest, a, h => by
    unfold wpQuiet at h
    unfold wpStill
    by_cases hw : Region.wanted o (yielded ops a.tmps) = true
    · rw [if_pos hw] at h ⊢
      obtain ⟨v, h1, h2⟩ := h
      have h3 := h1 w rfl
      unfold Oper.quietAt at h3
      unfold Oper.still
      generalize (execOp a.eval o).run P w = r at *
      cases r with
      | ok n w' =>
        cases n <;> simp only [Oper.quietUpon] at h3 <;> simp only [Oper.stillUpon]
        case value u => exact ⟨h3.1, by rw [h3.2]; exact still_of_quiet rest _ h2⟩
        case skip => exact ⟨h3.1, by rw [← h3.2]; exact still_of_quiet rest _ h2⟩
        case enter f args => obtain ⟨e1, hc⟩ := h3; exact ⟨e1, v, hc, still_of_quiet rest _ h2⟩
      | halt x w' => simp only [Oper.quietUpon] at h3
    · rw [if_neg hw] at h ⊢
      exact still_of_quiet rest _ h

theorem wp_region_quiet_tail {id : Nat} {Q : Exit → Act → World → Prop} {a : Act} {l : List Oper} (n : Nat) (hm : P.follows .mixedOrders = true) (hB : Region.lexTailB .any l.toArray n = true)
    (h : wpQuiet P l.toArray (fun w' => w' = w.drew) (fun a' => wpList P l.toArray Q (l.drop n) a' w.drew) (l.take n) a) : (Code.region id l.toArray true).wp P Q a w :=
  wp_region_still_tail n hm hB (still_of_quiet _ _ h)
end
end Go.Proofs.Ytalmdccgpigppaa
namespace Go.Proofs.Ytalmdccgpigppaa
open Go.RowKit

theorem right_any (A : Option Addr) (n c : Nat) (l : List Int) (w : World) (hl : RI w A n l) (hn : n ≤ maxLen) :
    Calls Try.prog 60 #[.slice A n c] w fun e w' => e = .returned (.bool (rightB l)) ∧ w = w' := by
  unfold maxLen at hn
  have hlen := Lib.hid hl.1
  generalize hz : rightB l = z
  have Hz := Lib.hid hz; clear hz
  go_enter Try.func60, Try.ntmps60
  go_wp2
  go_loop [7] (fun i => ∃ k : Nat, k ≤ n ∧ i = .int .i64 (k : Nat) ∧ Hid (∀ i, i < k → tyB (intAt l i) = true)) (fun i => n - (intOf i).toNat)
  case atStart => exact ⟨0, by omega, rfl, fun i hi => absurd hi (by omega)⟩
  case round =>
    obtain ⟨k, hk, rfl, hall⟩ := hrel
    by_cases hlt : k < n
    · obtain ⟨b, o, rfl, _, hc⟩ := hl.at_ hlt
      have hne : ¬ (n : Int) ≤ (k : Int) := by omega
      by_cases ht : tyB (intAt l k) = true
      · have H := Lib.hid ht
        have hall' : Hid (∀ i, i < k + 1 → tyB (intAt l i) = true) := fun i hi => by
          rcases Nat.lt_or_ge i k with h | h
          · exact hall.out i h
          · rw [show i = k from by omega]; exact H.out
        rcases tyB_true.1 ht with h1 | h1
        all_goals
          rw [h1] at hc
          clear h1 H ht hall
          go_wp2
          go_round
          case rel => exact ⟨k + 1, by omega, by go_num, hall'⟩
          case measure => simp [intOf]; omega
      · have H := Lib.hid ht
        have h1 : intAt l k ≠ 1 ∧ intAt l k ≠ 2 := by
          constructor <;> intro e <;> exact ht (tyB_true.2 (by omega))
        have b1 : (intAt l k != 1) = true := by rw [bne_iff_ne]; exact h1.1
        have b2 : (intAt l k != 2) = true := by rw [bne_iff_ne]; exact h1.2
        clear h1 ht
        go_wp2
        go_ret
        refine ⟨ret_bool ?_, rfl⟩
        rw [← Hz.out]
        unfold rightB
        rw [allK_false (k := k) (by rw [hlen.out]; exact hlt) (by simpa using H.out)]
        rfl
    · have hkn : Hid (k = n) := show k = n by omega
      have hge : (n : Int) ≤ (k : Int) := by omega
      have hz2 : Hid (z = (decide (1 ≤ n) && decide (n ≤ 8))) := by
        show z = _
        rw [← Hz.out]
        unfold rightB
        rw [allK_true.2 (fun i hi => hall.out i (by rw [hlen.out] at hi; rw [hkn.out]; exact hi)), hlen.out]
        rfl
      rcases (show n = 0 ∨ (1 ≤ n ∧ n ≤ 8) ∨ 8 < n by omega) with h0 | ⟨h0, h1⟩ | h0
      · subst h0
        go_wp2
        go_ret
        exact ⟨ret_bool (by rw [hz2.out]; rfl), rfl⟩
      · go_wp2
        go_ret
        exact ⟨ret_bool (by rw [hz2.out, Bool.eq_iff_iff]; simp only [Bool.and_eq_true, decide_eq_true_eq]; omega), rfl⟩
      · go_wp2
        go_ret
        exact ⟨ret_bool (by rw [hz2.out, Bool.eq_iff_iff]; simp only [Bool.and_eq_true, decide_eq_true_eq]; omega), rfl⟩

theorem refright_any (A : Option Addr) (n c : Nat) (l : List Int) (w : World) (hl : RI w A n l) (hn : n ≤ maxLen) :
    Calls Try.prog 22 #[.slice A n c] w fun e w' => e = .returned (.bool (rightB l)) ∧ w = w' := by
  unfold maxLen at hn
  have hlen := Lib.hid hl.1
  generalize hz : rightB l = z
  have Hz := Lib.hid hz; clear hz
  go_enter Try.func22, Try.ntmps22
  go_wp2
  go_loop [3] (fun i => ∃ k : Nat, k ≤ n ∧ i = .int .i64 (k : Nat) ∧ Hid (∀ i, i < k → tyB (intAt l i) = true)) (fun i => n - (intOf i).toNat)
  case atStart => exact ⟨0, by omega, rfl, fun i hi => absurd hi (by omega)⟩
  case round =>
    obtain ⟨k, hk, rfl, hall⟩ := hrel
    by_cases hlt : k < n
    · obtain ⟨b, o, rfl, _, hc⟩ := hl.at_ hlt
      have hne : ¬ (n : Int) ≤ (k : Int) := by omega
      by_cases ht : tyB (intAt l k) = true
      · have H := Lib.hid ht
        have hall' : Hid (∀ i, i < k + 1 → tyB (intAt l i) = true) := fun i hi => by
          rcases Nat.lt_or_ge i k with h | h
          · exact hall.out i h
          · rw [show i = k from by omega]; exact H.out
        rcases tyB_true.1 ht with h1 | h1
        all_goals
          rw [h1] at hc
          clear h1 H ht hall
          go_wp2
          go_round
          case rel => exact ⟨k + 1, by omega, by go_num, hall'⟩
          case measure => simp [intOf]; omega
      · have H := Lib.hid ht
        have h1 : intAt l k ≠ 1 ∧ intAt l k ≠ 2 := by
          constructor <;> intro e <;> exact ht (tyB_true.2 (by omega))
        have b1 : (intAt l k != 1) = true := by rw [bne_iff_ne]; exact h1.1
        have b2 : (intAt l k != 2) = true := by rw [bne_iff_ne]; exact h1.2
        clear h1 ht
        go_wp2
        go_ret
        refine ⟨ret_bool ?_, rfl⟩
        rw [← Hz.out]
        unfold rightB
        rw [allK_false (k := k) (by rw [hlen.out]; exact hlt) (by simpa using H.out)]
        rfl
    · have hkn : Hid (k = n) := show k = n by omega
      have hge : (n : Int) ≤ (k : Int) := by omega
      have hz2 : Hid (z = (decide (1 ≤ n) && decide (n ≤ 8))) := by
        show z = _
        rw [← Hz.out]
        unfold rightB
        rw [allK_true.2 (fun i hi => hall.out i (by rw [hlen.out] at hi; rw [hkn.out]; exact hi)), hlen.out]
        rfl
      rcases (show n = 0 ∨ (1 ≤ n ∧ n ≤ 8) ∨ 8 < n by omega) with h0 | ⟨h0, h1⟩ | h0
      · subst h0
        go_wp2
        go_ret
        exact ⟨ret_bool (by rw [hz2.out]; rfl), rfl⟩
      · go_wp2
        go_ret
        exact ⟨ret_bool (by rw [hz2.out, Bool.eq_iff_iff]; simp only [Bool.and_eq_true, decide_eq_true_eq]; omega), rfl⟩
      · go_wp2
        go_ret
        exact ⟨ret_bool (by rw [hz2.out, Bool.eq_iff_iff]; simp only [Bool.and_eq_true, decide_eq_true_eq]; omega), rfl⟩

theorem truth_any (v : Int) (w : World) : Calls Try.prog 96 #[.int .i64 v] w fun e w' => e = .returned (.bool (v == 0 || v == 1)) ∧ w = w' := by
  by_cases h : v = 0
  · subst h
    go_enter Try.func96, Try.ntmps96
    go_wp2
    go_ret
    exact ⟨rfl, rfl⟩
  · have h1 : (v == 0) = false := by rw [beq_eq_false_iff_ne]; exact h
    rw [h1]
    clear h
    go_enter Try.func96, Try.ntmps96
    go_wp2
    go_ret
    exact ⟨rfl, rfl⟩

theorem fits_any (A B : Option Addr) (n m c d : Nat) (ts l : List Int) (w : World) (ht : RI w A n ts) (hl : RI w B m l) (hn : n ≤ maxLen) (hm : m ≤ maxLen) :
    Calls Try.prog 90 #[.slice A n c, .slice B m d] w fun e w' => e = .returned (.bool (fitsB ts l)) ∧ w = w' := by
  have hright := right_any A n c ts w ht hn
  unfold maxLen at hn hm
  have hlen := Lib.hid ht.1
  have hlen2 := Lib.hid hl.1
  generalize hz : fitsB ts l = z
  have Hz := Lib.hid hz; clear hz
  cases hr : rightB ts with
  | false =>
    rw [hr] at hright
    have hz3 : z = false := by rw [← Hz.out]; unfold fitsB; rw [hr]; rfl
    rw [hz3]
    clear hz3 hr
    go_enter Try.func90, Try.ntmps90
    go_wp2_with (go_at_call 60; (with_reducible refine (hright).mono ?_); rintro e w' ⟨rfl, rfl⟩)
    go_ret
    exact ⟨rfl, rfl⟩
  | true =>
    rw [hr] at hright
    have Hr := Lib.hid hr
    clear hr
    by_cases hnm : m = n
    · have Hnm := Lib.hid hnm
      subst hnm
      have hnn : (((m : Nat) : Int) != (m : Int)) = false := by simp
      go_enter Try.func90, Try.ntmps90
      go_wp2_with (go_at_call 60; (with_reducible refine (hright).mono ?_); rintro e w' ⟨rfl, rfl⟩)
      go_loop [19] (fun i => ∃ k : Nat, k ≤ m ∧ i = .int .i64 (k : Nat) ∧ Hid (∀ i, i < k → okAt (intAt ts i) (intAt l i) = true)) (fun i => m - (intOf i).toNat)
      case atStart => exact ⟨0, by omega, rfl, fun i hi => absurd hi (by omega)⟩
      case round =>
        obtain ⟨k, hk, rfl, hall⟩ := hrel
        by_cases hlt : k < m
        · obtain ⟨b, o, rfl, _, hc⟩ := ht.at_ hlt
          obtain ⟨b2, o2, rfl, _, hc2⟩ := hl.at_ hlt
          have hne : ¬ (m : Int) ≤ (k : Int) := by omega
          by_cases hok : okAt (intAt ts k) (intAt l k) = true
          · have hall' : Hid (∀ i, i < k + 1 → okAt (intAt ts i) (intAt l i) = true) := fun i hi => by
              rcases Nat.lt_or_ge i k with h | h
              · exact hall.out i h
              · rw [show i = k from by omega]; exact hok
            have h3 := okAt_true.1 hok
            clear hok hall
            by_cases h2 : intAt ts k = 2
            · have h4 := h3 h2
              rw [h2] at hc
              have h5 : Hid ((intAt l k == 0 || intAt l k == 1) = true) := by
                show _ = _
                rcases h4 with e | e <;> rw [e] <;> rfl
              clear h3 h4 h2
              generalize intAt l k = v at *
              go_wp2_with (go_at_call 96; (with_reducible refine (truth_any _ _).mono ?_); rintro e w' ⟨rfl, rfl⟩; rw [h5.out])
              go_round
              case rel => exact ⟨k + 1, by omega, by go_num, hall'⟩
              case measure => simp [intOf]; omega
            · have b2 : (intAt ts k == 2) = false := by rw [beq_eq_false_iff_ne]; exact h2
              clear h2 h3
              generalize intAt ts k = v at *
              go_wp2
              go_round
              case rel => exact ⟨k + 1, by omega, by go_num, hall'⟩
              case measure => simp [intOf]; omega
          · have h3 := okAt_false.1 (by simpa using hok)
            rw [h3.1] at hc
            have h5 : Hid ((intAt l k == 0 || intAt l k == 1) = false) := by
              show _ = _
              rw [Bool.or_eq_false_iff, beq_eq_false_iff_ne, beq_eq_false_iff_ne]; exact h3.2
            have hz3 : Hid (z = false) := by
              show z = false
              rw [← Hz.out]; unfold fitsB
              rw [allK_false (k := k) (by rw [hlen.out]; exact hlt) (by simpa using hok)]
              simp
            clear h3 hok
            generalize intAt l k = v at *
            go_wp2_with (go_at_call 96; (with_reducible refine (truth_any _ _).mono ?_); rintro e w' ⟨rfl, rfl⟩; rw [h5.out])
            go_ret
            exact ⟨ret_bool hz3.out.symm, rfl⟩
        · have hge : (m : Int) ≤ (k : Int) := by omega
          have hz3 : Hid (z = true) := by
            show z = true
            rw [← Hz.out]; unfold fitsB
            rw [allK_true.2 (fun i hi => hall.out i (by rw [hlen.out] at hi; omega)), Hr.out, hlen.out, hlen2.out]
            simp
          go_wp2
          go_ret
          exact ⟨ret_bool hz3.out.symm, rfl⟩
    · have hne : (((m : Nat) : Int) != (n : Int)) = true := by rw [bne_iff_ne]; omega
      have hz3 : z = false := by
        rw [← Hz.out]; unfold fitsB
        rw [show decide (l.length = ts.length) = false from decide_eq_false (by rw [hlen.out, hlen2.out]; exact hnm)]
        simp
      rw [hz3]
      clear hnm hz3
      go_enter Try.func90, Try.ntmps90
      go_wp2_with (go_at_call 60; (with_reducible refine (hright).mono ?_); rintro e w' ⟨rfl, rfl⟩)
      go_ret
      exact ⟨rfl, rfl⟩

end Go.Proofs.Ytalmdccgpigppaa
