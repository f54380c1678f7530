/- Contracts of package code: Decode. Contracts of package code: Decode, the walk. -/
import Derived.Test.YtkhihgilodhjfaaCodeN
import Derived.Test.YtkhihgilodhjfaaCodeC
namespace Go.Proofs.Ytkhihgilodhjfaa
open Go.RowKit
set_option linter.unusedVariables false
set_option linter.unusedSimpArgs false

theorem Ow.keepT {α : Type} {enc : α → Value} {F : Nat → Prop} {w w' : World} {base n c : Nat} {e : TypeId} {A : Option Addr} {l : List α} (h : Ow enc w base e A n c l) (k : Keep F w w') (hF : ∀ b t cs, base ≤ b → Blk w b t cs → F b → t ≠ e) : Ow enc w' base e A n c l := by
  refine h.kept k (fun b hb hFb => ?_)
  rcases h.2.2 with ⟨hv, _⟩ | ⟨g, cap, cur, hv, hbs, hg, _⟩
  · injection hv with hv; subst hv; cases hb
  · injection hv with hv
    subst hv
    simp only [Option.map_some, Option.some.injEq] at hb
    subst hb
    exact hF g e cur.toList hbs (by unfold Blk; rw [hg]) hFb rfl
theorem OwS.keepT {α : Type} {size : Nat} {enc : α → List Value} {F : Nat → Prop} {w w' : World} {base n c : Nat} {e : TypeId} {A : Option Addr} {l : List α} (h : OwS size enc w base e A n c l) (k : Keep F w w') (hF : ∀ b t cs, base ≤ b → Blk w b t cs → F b → t ≠ e) : OwS size enc w' base e A n c l := by
  refine ⟨h.1, own_keep h.2 k (fun b hb hFb => ?_)⟩
  rcases h.2.2 with ⟨hv, _⟩ | ⟨g, cap, cur, hv, hbs, hg, _⟩
  · rw [hv] at hb; cases hb
  · rw [hv] at hb
    simp only [Value.ownBlock, Option.some.injEq] at hb
    subst hb
    exact hF g e cur.toList hbs (by unfold Blk; rw [hg]) hFb rfl
theorem Blk.ty2 {w : World} {g : Nat} {t t' : TypeId} {cs cs' : List Value} (h : Blk w g t cs) (h' : Blk w g t' cs') : t = t' := by
  unfold Blk at h h'
  rw [h] at h'
  injection h' with h'
  injection h' with _ ht
theorem OwS.blk2 {α : Type} {size : Nat} {enc : α → List Value} {w : World} {base n c g : Nat} {e : TypeId} {A : Option Addr} {l : List α} (h : OwS size enc w base e A n c l) (hg : A.map (·.block) = some g) : base ≤ g ∧ ∃ cs, Blk w g e cs := by
  rcases h.2.2 with ⟨hv, _⟩ | ⟨g', cap, cur, hv, hb, hh, _⟩
  · injection hv with hv; subst hv; cases hg
  · injection hv with hv
    subst hv
    simp only [Option.map_some, Option.some.injEq] at hg
    subst hg
    exact ⟨hb, cur.toList, by unfold Blk; rw [hh]⟩

/-- Decode's state: the result's place, the reader, the program that grows. -/
structure DecAt (w wr : World) (gr g gp : Nat) (x : PA) (p : PV) (s : RS) : Prop where
  prog : Blk wr gp 26 [.slice x.A1 x.n1 x.c1, .slice x.A2 x.n2 x.c2, .int .i64 p.regs, .slice x.A3 x.n3 x.c3, .slice x.A4 x.n4 x.c4]
  res : Blk wr gr 26 [.slice none 0 0, .slice none 0 0, .int .i64 0, .slice none 0 0, .slice none 0 0]
  ne : gr ≠ gp ∧ w.heap.size ≤ gr ∧ w.heap.size ≤ gp ∧ gr ≠ g ∧ gp ≠ g
  ins : Ow iv wr w.heap.size 3 x.A1 x.n1 x.c1 p.ins
  outs : Ow iv wr w.heap.size 3 x.A2 x.n2 x.c2 p.outs
  cells : OwS 2 cellE wr w.heap.size 83 x.A3 x.n3 x.c3 p.cells
  code : OwS 5 insE wr w.heap.size 91 x.A4 x.n4 x.c4 p.code
  rdr : RdrAt w wr g s
theorem RdrAt.ty {w0 w : World} {g : Nat} {s : RS} (h : RdrAt w0 w g s) {t : TypeId} {cs : List Value} (hb : Blk w g t cs) : t = 86 := by
  obtain ⟨_, _, A, n, c, hx, _⟩ := h
  exact Blk.ty2 hb hx
theorem DecAt.rdr' {w wr w' : World} {gr g gp : Nat} {x : PA} {p : PV} {s s' : RS} (h : DecAt w wr gr g gp x p s) (k : Keep (· = g) wr w') (hr : RdrAt w w' g s') : DecAt w w' gr g gp x p s' := by
  obtain ⟨h1, h2, h3, h4, h5, h6, h7, h8⟩ := h
  have hF : ∀ (e : TypeId), 86 ≠ e → ∀ b t cs, w.heap.size ≤ b → Blk wr b t cs → b = g → t ≠ e := fun e he b t cs _ hb e2 => by subst e2; rw [h8.ty hb]; exact he
  exact ⟨h1.keep k (fun e => h3.2.2.2.2 e), h2.keep k (fun e => h3.2.2.2.1 e), h3, h4.keepT k (hF _ (by decide)), h5.keepT k (hF _ (by decide)), h6.keepT k (hF _ (by decide)), h7.keepT k (hF _ (by decide)), hr⟩
theorem DecAt.start {w w2 : World} {B1 B2 : Option Addr} {nI d1 nO d2 : Nat} {lI lO : List Int} {s : RS} (z : Blk w2 w.heap.size 26 [.slice none 0 0, .slice none 0 0, .int .i64 0, .slice none 0 0, .slice none 0 0])
    (o1 : Ow iv w2 w.heap.size 3 B1 nI d1 lI) (o2 : Ow iv w2 w.heap.size 3 B2 nO d2 lO) (hr : RdrAt w w2 (w.heap.size + 1) s) (hs : w.heap.size + 2 ≤ w2.heap.size) :
    DecAt w (w2.alloc (.cells #[.slice B1 nI d1, .slice B2 nO d2, .int .i64 0, .slice none 0 0, .slice none 0 0] 26)) w.heap.size (w.heap.size + 1) w2.heap.size ⟨B1, nI, d1, B2, nO, d2, none, 0, 0, none, 0, 0⟩ ⟨lI, lO, 0, [], []⟩ s :=
  ⟨(by (repeat' (first | (with_reducible assumption) | (with_reducible refine Blk.top _ (by first | rfl | omega | (simp; done) | (simp; omega)) rfl) | (with_reducible refine Blk.alloc ?_ _) | (with_reducible refine Blk.drew ?_) | (with_reducible refine Blk.drewN ?_ _) | (with_reducible refine Blk.far ?_ (by first | omega | (simp; done) | (simp; omega)) _)))), z.alloc _, ⟨by omega, by omega, by omega, by omega, by omega⟩, o1.below ((Below.refl w2.heap.size _).alloc (Nat.le_refl _) _) (Nat.le_refl _), o2.below ((Below.refl w2.heap.size _).alloc (Nat.le_refl _) _) (Nat.le_refl _), OwS.nil _ _ _ _ _, OwS.nil _ _ _ _ _, hr.alloc _⟩
theorem DecAt.pcells {w wr : World} {gr g gp : Nat} {x : PA} {p : PV} {s : RS} (h : DecAt w wr gr g gp x p s) : wr.cell? ⟨gp, 0, none⟩ = some (.slice x.A1 x.n1 x.c1) ∧ wr.cell? ⟨gp, 1, none⟩ = some (.slice x.A2 x.n2 x.c2) ∧ wr.cell? ⟨gp, 2, none⟩ = some (.int .i64 p.regs) ∧ wr.cell? ⟨gp, 3, none⟩ = some (.slice x.A3 x.n3 x.c3) ∧ wr.cell? ⟨gp, 4, none⟩ = some (.slice x.A4 x.n4 x.c4) := blkc5 h.prog
theorem DecAt.regs {w wr : World} {gr g gp : Nat} {x : PA} {p : PV} {s : RS} (h : DecAt w wr gr g gp x p s) (r : Int) : DecAt w (wr.setCell ⟨gp, 2, none⟩ (.int .i64 r)) gr g gp x { p with regs := r } s := by
  obtain ⟨h1, h2, h3, h4, h5, h6, h7, h8⟩ := h
  have k : Keep (· = gp) wr (wr.setCell ⟨gp, 2, none⟩ (.int .i64 r)) := Keep.one (grown_setCell _)
  have hF : ∀ (e : TypeId), 26 ≠ e → ∀ b t cs, w.heap.size ≤ b → Blk wr b t cs → b = gp → t ≠ e := fun e he b t cs _ hb e2 => by subst e2; rw [Blk.ty2 hb h1]; exact he
  exact ⟨h1.set_ 2 _, h2.keep k (fun e => h3.1 e), h3, h4.keepT k (hF _ (by decide)), h5.keepT k (hF _ (by decide)), h6.keepT k (hF _ (by decide)), h7.keepT k (hF _ (by decide)), h8.keep k (fun x e => ⟨by rw [e]; exact h3.2.2.1, by rw [e]; exact h3.2.2.2.2⟩)⟩
/-- A cell is appended: the slice's row may have grown in place. -/
theorem DecAt.cell {w wr w5 : World} {gr g gp : Nat} {x : PA} {p : PV} {s : RS} {o : Obj} {A' : Option Addr} {c' : Nat} {l : List (Int × Int)} (h : DecAt w wr gr g gp x p s) (hg : (wr.alloc o).grownBy w5 (x.A3.map (·.block))) (hown : OwS 2 cellE w5 w.heap.size 83 A' (x.n3 + 1) c' l) :
    DecAt w (w5.setCell ⟨gp, 3, none⟩ (.slice A' (x.n3 + 1) c')) gr g gp { x with A3 := A', n3 := x.n3 + 1, c3 := c' } { p with cells := l } s := by
  obtain ⟨h1, h2, h3, h4, h5, h6, h7, h8⟩ := h
  have k5 : Keep (fun b => x.A3.map (·.block) = some b) wr w5 := ((Keep.refl _ _).alloc o).trans (G := fun b => x.A3.map (·.block) = some b) (Keep.of_grown hg (fun x e => e)) (fun _ _ e => e)
  have k : Keep (fun b => x.A3.map (·.block) = some b ∨ b = gp) wr (w5.setCell ⟨gp, 3, none⟩ (.slice A' (x.n3 + 1) c')) := (k5.mono (fun _ _ e => .inl e)).set_ _ (.inr rfl)
  have hA : ∀ b t cs, x.A3.map (·.block) = some b → Blk wr b t cs → t = 83 := fun b t cs e hb => by obtain ⟨_, cs', hc⟩ := h6.blk2 e; exact Blk.ty2 hb hc
  have hF : ∀ (e : TypeId), 26 ≠ e → 83 ≠ e → ∀ b t cs, w.heap.size ≤ b → Blk wr b t cs → (x.A3.map (·.block) = some b ∨ b = gp) → t ≠ e := fun e he he' b t cs _ hb e2 => by
    rcases e2 with e2 | e2
    · rw [hA b t cs e2 hb]; exact he'
    · subst e2; rw [Blk.ty2 hb h1]; exact he
  have hp5 : Blk w5 gp _ _ := h1.keep k5 (fun e => by have := hA gp _ _ e h1; revert this; decide)
  refine ⟨hp5.set_ 3 _, h2.keep k (fun e => ?_), h3, h4.keepT k (hF _ (by decide) (by decide)), h5.keepT k (hF _ (by decide) (by decide)), ?_, h7.keepT k (hF _ (by decide) (by decide)), h8.keep k (fun b e => ?_)⟩
  · rcases e with e | e
    · have := hA gr _ _ e h2; revert this; decide
    · exact h3.1 e
  · exact OwS.setFar hown hp5 (by decide) 3 _
  · rcases e with e | e
    · obtain ⟨hb, cs, hc⟩ := h6.blk2 e
      exact ⟨hb, fun e2 => by subst e2; have := h8.ty hc; revert this; decide⟩
    · rw [e]; exact ⟨h3.2.2.1, h3.2.2.2.2⟩
theorem DecAt.instr {w wr w5 : World} {gr g gp : Nat} {x : PA} {p : PV} {s : RS} {o : Obj} {A' : Option Addr} {c' : Nat} {l : List Ins} (h : DecAt w wr gr g gp x p s) (hg : (wr.alloc o).grownBy w5 (x.A4.map (·.block))) (hown : OwS 5 insE w5 w.heap.size 91 A' (x.n4 + 1) c' l) :
    DecAt w (w5.setCell ⟨gp, 4, none⟩ (.slice A' (x.n4 + 1) c')) gr g gp { x with A4 := A', n4 := x.n4 + 1, c4 := c' } { p with code := l } s := by
  obtain ⟨h1, h2, h3, h4, h5, h6, h7, h8⟩ := h
  have k5 : Keep (fun b => x.A4.map (·.block) = some b) wr w5 := ((Keep.refl _ _).alloc o).trans (G := fun b => x.A4.map (·.block) = some b) (Keep.of_grown hg (fun x e => e)) (fun _ _ e => e)
  have k : Keep (fun b => x.A4.map (·.block) = some b ∨ b = gp) wr (w5.setCell ⟨gp, 4, none⟩ (.slice A' (x.n4 + 1) c')) := (k5.mono (fun _ _ e => .inl e)).set_ _ (.inr rfl)
  have hA : ∀ b t cs, x.A4.map (·.block) = some b → Blk wr b t cs → t = 91 := fun b t cs e hb => by obtain ⟨_, cs', hc⟩ := h7.blk2 e; exact Blk.ty2 hb hc
  have hF : ∀ (e : TypeId), 26 ≠ e → 91 ≠ e → ∀ b t cs, w.heap.size ≤ b → Blk wr b t cs → (x.A4.map (·.block) = some b ∨ b = gp) → t ≠ e := fun e he he' b t cs _ hb e2 => by
    rcases e2 with e2 | e2
    · rw [hA b t cs e2 hb]; exact he'
    · subst e2; rw [Blk.ty2 hb h1]; exact he
  have hp5 : Blk w5 gp _ _ := h1.keep k5 (fun e => by have := hA gp _ _ e h1; revert this; decide)
  refine ⟨hp5.set_ 4 _, h2.keep k (fun e => ?_), h3, h4.keepT k (hF _ (by decide) (by decide)), h5.keepT k (hF _ (by decide) (by decide)), h6.keepT k (hF _ (by decide) (by decide)), ?_, h8.keep k (fun b e => ?_)⟩
  · rcases e with e | e
    · have := hA gr _ _ e h2; revert this; decide
    · exact h3.1 e
  · exact OwS.setFar hown hp5 (by decide) 4 _
  · rcases e with e | e
    · obtain ⟨hb, cs, hc⟩ := h7.blk2 e
      exact ⟨hb, fun e2 => by subst e2; have := h8.ty hc; revert this; decide⟩
    · rw [e]; exact ⟨h3.2.2.1, h3.2.2.2.2⟩
theorem DecAt.drew {w wr : World} {gr g gp : Nat} {x : PA} {p : PV} {s : RS} (h : DecAt w wr gr g gp x p s) : DecAt w wr.drew gr g gp x p s := by
  obtain ⟨h1, h2, h3, h4, h5, h6, h7, h8⟩ := h
  exact ⟨h1, h2, h3, h4, h5, h6, h7, ⟨Below.drew h8.1, h8.2⟩⟩
theorem DecAt.cellP {w wr w5 : World} {gr g gp : Nat} {x : PA} {p : PV} {s : RS} {o : Obj} (h : DecAt w wr gr g gp x p s) (hg : (wr.alloc o).grownBy w5 (x.A3.map (·.block))) : Blk w5 gp 26 [.slice x.A1 x.n1 x.c1, .slice x.A2 x.n2 x.c2, .int .i64 p.regs, .slice x.A3 x.n3 x.c3, .slice x.A4 x.n4 x.c4] :=
  h.prog.keep (((Keep.refl (fun b => x.A3.map (·.block) = some b) _).alloc o).trans (G := fun b => x.A3.map (·.block) = some b) (Keep.of_grown hg (fun x e => e)) (fun _ _ e => e)) (fun e => by obtain ⟨_, cs', hc⟩ := h.cells.blk2 e; have := Blk.ty2 h.prog hc; revert this; decide)
theorem DecAt.instrP {w wr w5 : World} {gr g gp : Nat} {x : PA} {p : PV} {s : RS} {o : Obj} (h : DecAt w wr gr g gp x p s) (hg : (wr.alloc o).grownBy w5 (x.A4.map (·.block))) : Blk w5 gp 26 [.slice x.A1 x.n1 x.c1, .slice x.A2 x.n2 x.c2, .int .i64 p.regs, .slice x.A3 x.n3 x.c3, .slice x.A4 x.n4 x.c4] :=
  h.prog.keep (((Keep.refl (fun b => x.A4.map (·.block) = some b) _).alloc o).trans (G := fun b => x.A4.map (·.block) = some b) (Keep.of_grown hg (fun x e => e)) (fun _ _ e => e)) (fun e => by obtain ⟨_, cs', hc⟩ := h.code.blk2 e; have := Blk.ty2 h.prog hc; revert this; decide)
theorem DecAt.fin {w wr w' : World} {gr g gp : Nat} {x : PA} {p : PV} {s : RS} (h : DecAt w wr gr g gp x p s) (k : Keep (· = gr) wr w') : ProgRd w' x p ∧ Below w.heap.size w w' := by
  obtain ⟨h1, h2, h3, h4, h5, h6, h7, h8⟩ := h
  have hF : ∀ (e : TypeId), 26 ≠ e → ∀ b t cs, w.heap.size ≤ b → Blk wr b t cs → b = gr → t ≠ e := fun e he b t cs _ hb e2 => by subst e2; rw [Blk.ty2 hb h2]; exact he
  exact ⟨⟨(h4.keepT k (hF _ (by decide))).rd.ri, (h5.keepT k (hF _ (by decide))).rd.ri, (h6.keepT k (hF _ (by decide))).rd, (h7.keepT k (hF _ (by decide))).rd, h4.cap, h5.cap, h6.cap, h7.cap⟩, h8.1.trans (k.below (fun x e => by rw [e]; exact h3.2.1) h8.1.size)⟩
theorem elemCell : ElemOf Try.prog 23 83 (.agg #[.int .i64 0, .int .i64 0]) 2 16 := ElemOf.mk' Try.underlying23 (by kernel_rfl) rfl (by decide)
theorem elemIns : ElemOf Try.prog 24 91 (.agg #[.int .i64 0, .int .i64 0, .int .i64 0, .int .i64 0, .int .i64 0]) 5 40 := ElemOf.mk' Try.underlying24 (by kernel_rfl) rfl (by decide)
theorem cellE_one (x : Int × Int) : ∀ u ∈ cellE x, u.oneCell' = true := by
  intro u hu
  simp only [cellE, List.mem_cons, List.not_mem_nil, or_false] at hu
  rcases hu with rfl | rfl <;> rfl
theorem insE_one (x : Ins) : ∀ u ∈ insE x, u.oneCell' = true := by
  intro u hu
  simp only [insE, List.mem_cons, List.not_mem_nil, or_false] at hu
  rcases hu with rfl | rfl | rfl | rfl | rfl <;> rfl
end Go.Proofs.Ytkhihgilodhjfaa
namespace Go.Proofs.Ytkhihgilodhjfaa
open Go.RowKit
set_option linter.unusedVariables false
set_option linter.unusedSimpArgs false

theorem Keep.drew' {F : Nat → Prop} {w w' : World} (h : Keep F w w') : Keep F w w'.drew := ⟨h.os, h.tape, h.output, h.size, h.block⟩
def noPA : PA := ⟨none, 0, 0, none, 0, 0, none, 0, 0, none, 0, 0⟩
def decEnd (z : Nat) (p : PV) : PV × Nat := if z ≠ 0 then (noProg, z) else (p, 0)
def DecPost (w : World) (q : PV × Nat) (e : Ending) (w' : World) : Prop := ∃ x, e = .returned (.tuple #[.agg (progE x q.1).toArray, .int .i64 (q.2 : Nat)]) ∧ ProgRd w' x q.1 ∧ Below w.heap.size w w'
theorem decPost_ok {w wr w' : World} {gr g gp : Nat} {x : PA} {p : PV} {s : RS} (z : Nat) (hz : z = 0) (h : DecAt w wr gr g gp x p s) (k : Keep (· = gr) wr w') :
    DecPost w (decEnd z p) (.returned (.tuple #[.agg #[.slice x.A1 x.n1 x.c1, .slice x.A2 x.n2 x.c2, .int .i64 p.regs, .slice x.A3 x.n3 x.c3, .slice x.A4 x.n4 x.c4], .int .i64 0])) w' := by
  unfold decEnd
  rw [if_neg (by omega)]
  exact ⟨x, rfl, (h.fin k).1, (h.fin k).2⟩
theorem decPost_no {w wr w' : World} {gr g gp : Nat} {x : PA} {p : PV} {s : RS} (z : Nat) (hz : z ≠ 0) (h : DecAt w wr gr g gp x p s) (k : Keep (· = gr) wr w') :
    DecPost w (decEnd z p) (.returned (.tuple #[.agg #[.slice none 0 0, .slice none 0 0, .int .i64 0, .slice none 0 0, .slice none 0 0], .int .i64 (z : Nat)])) w' := by
  unfold decEnd
  rw [if_pos hz]
  refine ⟨noPA, rfl, ⟨⟨rfl, Row.nil _ _ _⟩, ⟨rfl, Row.nil _ _ _⟩, ⟨rfl, rfl, Row.nil _ _ _⟩, ⟨rfl, rfl, Row.nil _ _ _⟩, ?_, ?_, ?_, ?_⟩, (h.fin k).2⟩ <;> exact ⟨Nat.le_refl _, by unfold maxLen; show 0 ≤ _; omega⟩
theorem DecAt.rcells {w wr : World} {gr g gp : Nat} {x : PA} {p : PV} {s : RS} (h : DecAt w wr gr g gp x p s) : wr.cell? ⟨gr, 0, none⟩ = some (.slice none 0 0) ∧ wr.cell? ⟨gr, 1, none⟩ = some (.slice none 0 0) ∧ wr.cell? ⟨gr, 2, none⟩ = some (.int .i64 0) ∧ wr.cell? ⟨gr, 3, none⟩ = some (.slice none 0 0) ∧ wr.cell? ⟨gr, 4, none⟩ = some (.slice none 0 0) := blkc5 h.res
set_option maxRecDepth 100000 in
set_option maxHeartbeats 4000000 in
theorem decode_walk (A : Option Addr) (n c : Nat) (bs : List UInt8) (w : World) (hl : RB w A n bs) (h1 : n ≤ c) (h2 : c ≤ maxLen)
    (I O : List Int × RS) (nI nO : Nat) (R N M : Nat × RS) (C : Nat → List (Int × Int) × RS) (cx : Nat → Int × Int) (J : Nat → List Ins × RS) (jx : Nat → Ins)
    (hN60 : N.1 ≤ 60) (hM : M.1 ≤ 2048)
    (hI : ∀ g wr, RdrAt w wr g (bs, 0) → Calls Try.prog 42 #[.pointer (some ⟨g, 0, none⟩)] wr fun e w' => ∃ B d, e = .returned (.slice B nI d) ∧ Ow iv w' wr.heap.size 3 B nI d I.1 ∧ RdrAt w w' g I.2 ∧ Keep (· = g) wr w')
    (hO : ∀ g wr, RdrAt w wr g I.2 → Calls Try.prog 42 #[.pointer (some ⟨g, 0, none⟩)] wr fun e w' => ∃ B d, e = .returned (.slice B nO d) ∧ Ow iv w' wr.heap.size 3 B nO d O.1 ∧ RdrAt w w' g O.2 ∧ Keep (· = g) wr w')
    (hR : ∀ g wr, RdrAt w wr g O.2 → Calls Try.prog 43 #[.pointer (some ⟨g, 0, none⟩), .int .i64 0, .int .i64 1600] wr fun e w' => e = .returned (.int .i64 (R.1 : Nat)) ∧ RdrAt w w' g R.2 ∧ Keep (· = g) wr w' ∧ w'.heap.size = wr.heap.size)
    (hN : ∀ g wr, RdrAt w wr g R.2 → Calls Try.prog 43 #[.pointer (some ⟨g, 0, none⟩), .int .i64 0, .int .i64 60] wr fun e w' => e = .returned (.int .i64 (N.1 : Nat)) ∧ RdrAt w w' g N.2 ∧ Keep (· = g) wr w' ∧ w'.heap.size = wr.heap.size)
    (hC0 : C 0 = ([], N.2)) (hC1 : ∀ k, (C (k + 1)).1 = (C k).1 ++ [cx k])
    (hC : ∀ k g wr, RdrAt w wr g (C k).2 → Calls Try.prog 44 #[.pointer (some ⟨g, 0, none⟩)] wr fun e w' => e = .returned (.agg #[.int .i64 (cx k).1, .int .i64 (cx k).2]) ∧ RdrAt w w' g (C (k + 1)).2 ∧ Keep (· = g) wr w')
    (hM' : ∀ g wr, RdrAt w wr g (C N.1).2 → Calls Try.prog 43 #[.pointer (some ⟨g, 0, none⟩), .int .i64 0, .int .i64 2048] wr fun e w' => e = .returned (.int .i64 (M.1 : Nat)) ∧ RdrAt w w' g M.2 ∧ Keep (· = g) wr w' ∧ w'.heap.size = wr.heap.size)
    (hJ0 : J 0 = ([], M.2)) (hJ1 : ∀ k, (J (k + 1)).1 = (J k).1 ++ [jx k])
    (hJ : ∀ k g wr, RdrAt w wr g (J k).2 → Calls Try.prog 45 #[.pointer (some ⟨g, 0, none⟩)] wr fun e w' => e = .returned (.agg #[.int .i64 (jx k).op, .int .i64 (jx k).a, .int .i64 (jx k).b, .int .i64 (jx k).c, .int .i64 (jx k).k]) ∧ RdrAt w w' g (J (k + 1)).2 ∧ Keep (· = g) wr w')
    (E : RS) (hE : ∀ g wr, RdrAt w wr g (J M.1).2 → Calls Try.prog 46 #[.pointer (some ⟨g, 0, none⟩), .bool (decide ((J M.1).2.1.length = 0)), .int .i64 12] wr fun e w' => e = .returned (.tuple #[]) ∧ RdrAt w w' g E ∧ Keep (· = g) wr w' ∧ w'.heap.size = wr.heap.size) :
    Calls Try.prog 17 #[.slice A n c] w (DecPost w (decEnd E.2 ⟨I.1, O.1, R.1, (C N.1).1, (J M.1).1⟩)) := by
  have hbox : RdrAt w ((w.alloc (.cells #[.slice none 0 0, .slice none 0 0, .int .i64 0, .slice none 0 0, .slice none 0 0] 26)).alloc (.cells #[.slice A n c, .int .i64 0] 86)) (w.heap.size + 1) (bs, 0) :=
    ⟨(((Below.refl _ _).alloc (Nat.le_refl _) _).alloc (by simp) _), by omega, A, n, c, (by (repeat' (first | (with_reducible assumption) | (with_reducible refine Blk.top _ (by first | rfl | omega | (simp; done) | (simp; omega)) rfl) | (with_reducible refine Blk.alloc ?_ _) | (with_reducible refine Blk.drew ?_) | (with_reducible refine Blk.drewN ?_ _) | (with_reducible refine Blk.far ?_ (by first | omega | (simp; done) | (simp; omega)) _)))), hl, h1, h2⟩
  have hHb := Lib.hid hbox
  have c0 := Lib.hid hC0
  have j0 := Lib.hid hJ0
  have cS := Lib.hid hC1
  have jS := Lib.hid hJ1
  clear hbox hC0 hJ0 hC1 hJ1
  go_enter Try.func17, Try.ntmps17
  go_wp2_with (first
    | ((go_at_call 42; (with_reducible refine (hI _ _ hHb.out).mono ?_); rintro e w1 ⟨B1, d1, rfl, o1, hr1, k1⟩); have H1 := Lib.hid hr1; have z1 := Blk.keep (F := (· = w.heap.size + 1)) (w' := w1) (g := w.heap.size) (t := 26) (cs := [.slice none 0 0, .slice none 0 0, .int .i64 0, .slice none 0 0, .slice none 0 0]) (by (repeat' (first | (with_reducible assumption) | (with_reducible refine Blk.top _ (by first | rfl | omega | (simp; done) | (simp; omega)) rfl) | (with_reducible refine Blk.alloc ?_ _) | (with_reducible refine Blk.drew ?_) | (with_reducible refine Blk.drewN ?_ _) | (with_reducible refine Blk.far ?_ (by first | omega | (simp; done) | (simp; omega)) _)))) k1 (by omega); clear hr1)
    | ((go_at_call 42; (with_reducible refine (hO _ _ H1.out).mono ?_); rintro e w2 ⟨B2, d2, rfl, o2, hr2, k2⟩); have H2 := Lib.hid (DecAt.start (z1.keep k2 (by omega)) ((o1.kept k2 (fun b e1 e2 => (by have := (o1.lt b e1).1; simp at this; omega))).rebase (by simp; omega)) (o2.rebase (by have := k1.size; simp at this; omega)) hr2 (by have := k1.size; have := k2.size; simp at *; omega)); clear hr2)
    | ((go_at_call 43; (with_reducible refine (hR _ _ H2.out.rdr).mono ?_); rintro e w3 ⟨rfl, hr3, k3, s3⟩); have H3 := Lib.hid (H2.out.rdr' k3 hr3); obtain ⟨p30, p31, p32, p33, p34⟩ := H3.out.pcells; have f3 := H3.out.prog.frozen; have l3 := H3.out.prog.lt; clear hr3 s3)
    | ((go_at_call 43; (with_reducible refine (hN _ _ (H3.out.regs _).rdr).mono ?_); rintro e w4 ⟨rfl, hr4, k4, s4⟩); have H4 := Lib.hid ((H3.out.regs _).rdr' k4 hr4); clear hr4 s4)
    | fail "no arm")
  have q4 : DecAt w w4 w.heap.size (w.heap.size + 1) w2.heap.size ⟨B1, nI, d1, B2, nO, d2, none, 0, 0, none, 0, 0⟩ ⟨I.1, O.1, R.1, [], []⟩ N.2 := H4.out
  have hNx := Lib.hid hN60
  have hMx := Lib.hid hM
  clear hI hO hR hN hN60 hM
  obtain ⟨N1, N2⟩ := N
  simp only at hNx c0 hM' q4 ⊢
  have hz4 := (by have := k2.size; exact this : _ ≤ w2.heap.size)
  go_loopw [19] (fun i wr => ∃ (k : Nat) (B : Option Addr) (d : Nat), k ≤ N1 ∧ i = .int .i64 (k : Nat) ∧ DecAt w wr w.heap.size (w.heap.size + 1) w2.heap.size ⟨B1, nI, d1, B2, nO, d2, B, k, d, none, 0, 0⟩ ⟨I.1, O.1, R.1, (C k).1, []⟩ (C k).2) (fun i _ => N1 - (intOf i).toNat)
  case atStart => exact ⟨0, none, 0, by omega, rfl, by rw [c0.out]; exact q4⟩
  case round =>
    obtain ⟨k, B, d, hk, rfl, hx⟩ := hrel
    by_cases hlt : k < N1
    · have hNl := hNx.out
      have hCk := hC k _ _ hx.drew.rdr
      have hX := Lib.hid hx
      obtain ⟨p0, p1, p2, p3, p4⟩ := hx.pcells
      have hS := Lib.hid (cS.out k)
      have hxs := hx.prog.lt
      clear hx
      go_wp2
      go_region_law (first
        | (go_simp; (go_at_call 44; (with_reducible refine (hCk).mono ?_); rintro e w5 ⟨rfl, hr5, k5⟩); have H5 := Lib.hid (hX.out.drew.rdr' k5 hr5); obtain ⟨p50, p51, p52, p53, p54⟩ := H5.out.pcells; have s5 : wr.heap.size ≤ w5.heap.size := k5.size; have s50 := H5.out.rdr.1.size; have l5 := H5.out.prog.lt; have f5 := H5.out.prog.frozen)
        | (refine step_appS rfl rfl elemCell cellE_one (s := .tmp 22) (N := k + 1) (L := (C k).1 ++ [cx k]) rfl (H5.out.cells.below (b := w5.heap.size) (by (repeat' (first | (with_reducible exact Below.refl _ _) | (with_reducible assumption) | (with_reducible refine Below.drew ?_) | (with_reducible refine below_drewN ?_ _) | (with_reducible refine Below.alloc ?_ ?_ _) | (with_reducible refine Below.setCell ?_ ?_ _) | omega | (simp; done) | (simp; omega)))) (Nat.le_refl _)) rfl (k := [cx k]) (RdS.of_block (l := [cx k]) (heap_top _ _ (by simp)) cellE_len rfl) rfl rfl (by unfold maxLen; omega) (by omega) (by first | omega | (simp; done) | (simp; omega)) ?_; intro A6 c6 w6 hown6 hg6 hat6 hb6; have hp6 := H5.out.cellP hg6; obtain ⟨p60, p61, p62, p63, p64⟩ := blkc5 hp6; have f6 := hp6.frozen; have l6 := hp6.lt)
        | fail "no arm")
      all_goals
        go_wp2
        go_roundw
        case rel => exact ⟨k + 1, A6, c6, by omega, by go_num, by rw [hS.out]; exact H5.out.cell hg6 hown6⟩
        case measure => simp [intOf]; omega
    · have hk9 : k = N1 := by omega
      subst hk9
      have hX := Lib.hid hx
      have hMc := hM' _ _ hx.rdr
      obtain ⟨M1, M2⟩ := M
      simp only at hMx j0 hMc hE ⊢
      clear hM' hx hC
      go_wp2_with (first
        | ((go_at_call 43; (with_reducible refine (hMc).mono ?_); rintro e w7 ⟨rfl, hr7, k7, s7⟩); have q7 := hX.out.rdr' k7 hr7; clear hr7 s7)
        | fail "no arm")
      go_loopw [31] (fun i wr => ∃ (m : Nat) (D : Option Addr) (f : Nat), m ≤ M1 ∧ i = .int .i64 (m : Nat) ∧ DecAt w wr w.heap.size (w.heap.size + 1) w2.heap.size ⟨B1, nI, d1, B2, nO, d2, B, k, d, D, m, f⟩ ⟨I.1, O.1, R.1, (C k).1, (J m).1⟩ (J m).2) (fun i _ => M1 - (intOf i).toNat)
      case atStart => exact ⟨0, none, 0, by omega, rfl, by rw [j0.out]; exact q7⟩
      case round =>
        obtain ⟨m, D, f, hm, rfl, hx⟩ := hrel
        by_cases hlt : m < M1
        · have hNl := hMx.out
          have hJk := hJ m _ _ hx.drew.rdr
          have hX := Lib.hid hx
          obtain ⟨p0, p1, p2, p3, p4⟩ := hx.pcells
          have hS := Lib.hid (jS.out m)
          have hxs := hx.prog.lt
          clear hx q7
          go_wp2
          go_region_law (first
            | (go_simp; (go_at_call 45; (with_reducible refine (hJk).mono ?_); rintro e w5 ⟨rfl, hr5, k5⟩); have H5 := Lib.hid (hX.out.drew.rdr' k5 hr5); obtain ⟨p50, p51, p52, p53, p54⟩ := H5.out.pcells; have s5 : wr.heap.size ≤ w5.heap.size := k5.size; have s50 := H5.out.rdr.1.size; have l5 := H5.out.prog.lt; have f5 := H5.out.prog.frozen)
            | (refine step_appS rfl rfl elemIns insE_one (s := .tmp 34) (N := m + 1) (L := (J m).1 ++ [jx m]) rfl (H5.out.code.below (b := w5.heap.size) (by (repeat' (first | (with_reducible exact Below.refl _ _) | (with_reducible assumption) | (with_reducible refine Below.drew ?_) | (with_reducible refine below_drewN ?_ _) | (with_reducible refine Below.alloc ?_ ?_ _) | (with_reducible refine Below.setCell ?_ ?_ _) | omega | (simp; done) | (simp; omega)))) (Nat.le_refl _)) rfl (k := [jx m]) (RdS.of_block (l := [jx m]) (heap_top _ _ (by simp)) insE_len rfl) rfl rfl (by unfold maxLen; omega) (by omega) (by first | omega | (simp; done) | (simp; omega)) ?_; intro A6 c6 w6 hown6 hg6 hat6 hb6; have hp6 := H5.out.instrP hg6; obtain ⟨p60, p61, p62, p63, p64⟩ := blkc5 hp6; have f6 := hp6.frozen; have l6 := hp6.lt)
            | fail "no arm")
          all_goals
            go_wp2
            go_roundw
            case rel => exact ⟨m + 1, A6, c6, by omega, by go_num, by rw [hS.out]; exact H5.out.instr hg6 hown6⟩
            case measure => simp [intOf]; omega
        · have hm9 : m = M1 := by omega
          subst hm9
          have hX := Lib.hid hx
          have hEc := hE _ _ hx.rdr
          clear hE hJ q7
          have hrd := hx.rdr
          obtain ⟨b1, g1, A1, n1, c1', x1, r1, l1, m1⟩ := hrd
          have e0 : wr.cell? ⟨w.heap.size + 1, 0, none⟩ = some (.slice A1 n1 c1') := x1.cell 0
          have hlen := r1.1
          have e9 : decide ((J m).2.1.length = 0) = decide (n1 = 0) := by rw [hlen]
          rw [e9] at hEc
          clear hx x1 r1 e9 hlen
          have hcs : ∃ bb, decide (n1 = 0) = bb ∧ (((n1 : Nat) : Int) == 0) = bb := by
            by_cases h : n1 = 0
            · subst h; exact ⟨true, rfl, rfl⟩
            · exact ⟨false, decide_eq_false h, by rw [beq_eq_false_iff_ne]; omega⟩
          obtain ⟨bb, hbb, hb2⟩ := hcs
          rw [hbb] at hEc
          clear hbb
          obtain ⟨E1, E2⟩ := E
          by_cases he : E2 = 0
          · subst he
            go_wp2_with (first
              | ((go_at_call 46; (with_reducible refine (hEc).mono ?_); rintro e w8 ⟨rfl, hr8, k8, s8⟩); have H8 := Lib.hid (hX.out.rdr' k8 hr8); obtain ⟨b8, g8, A8, n8, c8, x8, r8, l8, m8⟩ := hr8; have d8 : w8.cell? ⟨w.heap.size + 1, 1, none⟩ = some (.int .i64 (0 : Int)) := x8.cell 1; obtain ⟨p80, p81, p82, p83, p84⟩ := H8.out.pcells; obtain ⟨q80, q81, q82, q83, q84⟩ := H8.out.rcells; have f8 := H8.out.res.frozen; have l8' := H8.out.res.lt; have ne8 := H8.out.ne.1; clear x8 r8 s8)
              | fail "no arm")
            refine bodyPost_ret (v := .tuple #[.agg #[.slice B1 nI d1, .slice B2 nO d2, .int .i64 (R.1 : Nat), .slice B k d, .slice D m f], .int .i64 0]) (by simp [results, Try.results17, go_sem , q80, q81, q82, q83, q84, l8']) rfl ?_
            exact decPost_ok 0 rfl H8.out ((((((Keep.refl (· = w.heap.size) w8).set_ _ rfl).set_ _ rfl).set_ _ rfl).set_ _ rfl).set_ _ rfl)
          · have hne : (((E2 : Nat) : Int) != 0) = true := by rw [bne_iff_ne]; omega
            have Hne := Lib.hid he
            clear he
            go_wp2_with (first
              | ((go_at_call 46; (with_reducible refine (hEc).mono ?_); rintro e w8 ⟨rfl, hr8, k8, s8⟩); have H8 := Lib.hid (hX.out.rdr' k8 hr8); obtain ⟨b8, g8, A8, n8, c8, x8, r8, l8, m8⟩ := hr8; have d8 : w8.cell? ⟨w.heap.size + 1, 1, none⟩ = some (.int .i64 (E2 : Int)) := x8.cell 1; obtain ⟨q80, q81, q82, q83, q84⟩ := H8.out.rcells; have f8 := H8.out.res.frozen; have l8' := H8.out.res.lt; clear x8 r8 s8)
              | fail "no arm")
            go_region_held3 (fun w' => w'.cell? ⟨w.heap.size + 1, 1, none⟩ = some (.int .i64 (E2 : Int))) (go_keep) (fail)
            all_goals
              go_wp2
              refine bodyPost_ret (v := .tuple #[.agg #[.slice none 0 0, .slice none 0 0, .int .i64 0, .slice none 0 0, .slice none 0 0], .int .i64 (E2 : Nat)]) (by simp [results, Try.results17, go_sem , q80, q81, q82, q83, q84, l8']) rfl ?_
              exact decPost_no E2 Hne.out H8.out (Keep.drew' ((((((Keep.refl (· = w.heap.size) w8).set_ _ rfl).set_ _ rfl).set_ _ rfl).set_ _ rfl).set_ _ rfl))

theorem decode_any (A : Option Addr) (n c : Nat) (bs : List UInt8) (w : World) (hl : RB w A n bs) (h1 : n ≤ c) (h2 : c ≤ maxLen) :
    Calls Try.prog 17 #[.slice A n c] w (DecPost w (decodeL bs)) := by
  unfold decodeL
  simp only
  have hneed := fun s g wr h => need_any w g s (decide (s.1.length = 0)) 12 12 rfl wr h
  have hT : ∀ s g wr, RdrAt w wr g s → _ := fun s g wr h => rtypes_any w g s wr h
  have hS : ∀ s lo hi g wr, RdrAt w wr g s → _ := fun s lo hi g wr h => rshort_any w g s lo hi lo hi rfl rfl wr h
  have hC : ∀ s g wr, RdrAt w wr g s → _ := fun s g wr h => rcell_any w g s wr h
  have hI : ∀ s g wr, RdrAt w wr g s → _ := fun s g wr h => rinstr_any w g s wr h
  have n60 := fun s => rShort_le 0 60 s
  have n2048 := fun s => rShort_le 0 2048 s
  exact decode_walk A n c bs w hl h1 h2 (rTypes (bs, 0)) (rTypes (rTypes (bs, 0)).2) _ _ (rShort 0 1600 _) (rShort 0 60 _) (rShort 0 2048 _) (fun k => rCells k _) (fun k => (rCell (rCells k _).2).1) (fun k => rInstrs k _) (fun k => (rInstr (rInstrs k _).2).1) (n60 _) (n2048 _)
    (hT _) (hT _) (fun g wr h => hS _ 0 1600 g wr h) (fun g wr h => hS _ 0 60 g wr h) rfl (fun k => rfl) (fun k g wr h => hC _ g wr h) (fun g wr h => hS _ 0 2048 g wr h) rfl (fun k => rfl) (fun k g wr h => hI _ g wr h) _ (fun g wr h => hneed _ g wr h)
end Go.Proofs.Ytkhihgilodhjfaa
