/- Contracts of package code: Decode. -/
import Derived.Test.YtkhihgilodhjfaaCodeN
import Derived.Test.YtkhihgilodhjfaaCodeC
namespace Go.Proofs.Ytkhihgilodhjfaa
open Go.RowKit
set_option linter.unusedVariables false
set_option linter.unusedSimpArgs false

theorem Ow.keepT {α : Type} {enc : α → Value} {F : Nat → Prop} {w w' : World} {base n c : Nat} {e : TypeId} {A : Option Addr} {l : List α} (h : Ow enc w base e A n c l) (k : Keep F w w') (hF : ∀ b t cs, base ≤ b → Blk w b t cs → F b → t ≠ e) : Ow enc w' base e A n c l := by
  refine h.kept k (fun b hb hFb => ?_)
  rcases h.2.2 with ⟨hv, _⟩ | ⟨g, cap, cur, hv, hbs, hg, _⟩
  · injection hv with hv; subst hv; cases hb
  · injection hv with hv
    subst hv
    simp only [Option.map_some, Option.some.injEq] at hb
    subst hb
    exact hF g e cur.toList hbs (by unfold Blk; rw [hg]) hFb rfl
theorem OwS.keepT {α : Type} {size : Nat} {enc : α → List Value} {F : Nat → Prop} {w w' : World} {base n c : Nat} {e : TypeId} {A : Option Addr} {l : List α} (h : OwS size enc w base e A n c l) (k : Keep F w w') (hF : ∀ b t cs, base ≤ b → Blk w b t cs → F b → t ≠ e) : OwS size enc w' base e A n c l := by
  refine ⟨h.1, own_keep h.2 k (fun b hb hFb => ?_)⟩
  rcases h.2.2 with ⟨hv, _⟩ | ⟨g, cap, cur, hv, hbs, hg, _⟩
  · rw [hv] at hb; cases hb
  · rw [hv] at hb
    simp only [Value.ownBlock, Option.some.injEq] at hb
    subst hb
    exact hF g e cur.toList hbs (by unfold Blk; rw [hg]) hFb rfl
theorem Blk.ty2 {w : World} {g : Nat} {t t' : TypeId} {cs cs' : List Value} (h : Blk w g t cs) (h' : Blk w g t' cs') : t = t' := by
  unfold Blk at h h'
  rw [h] at h'
  injection h' with h'
  injection h' with _ ht
theorem OwS.blk2 {α : Type} {size : Nat} {enc : α → List Value} {w : World} {base n c g : Nat} {e : TypeId} {A : Option Addr} {l : List α} (h : OwS size enc w base e A n c l) (hg : A.map (·.block) = some g) : base ≤ g ∧ ∃ cs, Blk w g e cs := by
  rcases h.2.2 with ⟨hv, _⟩ | ⟨g', cap, cur, hv, hb, hh, _⟩
  · injection hv with hv; subst hv; cases hg
  · injection hv with hv
    subst hv
    simp only [Option.map_some, Option.some.injEq] at hg
    subst hg
    exact ⟨hb, cur.toList, by unfold Blk; rw [hh]⟩

/-- Decode's state: the result's place, the reader, the program that grows. -/
structure DecAt (w wr : World) (gr g gp : Nat) (x : PA) (p : PV) (s : RS) : Prop where
  prog : Blk wr gp 26 [.slice x.A1 x.n1 x.c1, .slice x.A2 x.n2 x.c2, .int .i64 p.regs, .slice x.A3 x.n3 x.c3, .slice x.A4 x.n4 x.c4]
  res : Blk wr gr 26 [.slice none 0 0, .slice none 0 0, .int .i64 0, .slice none 0 0, .slice none 0 0]
  ne : gr ≠ gp ∧ w.heap.size ≤ gr ∧ w.heap.size ≤ gp ∧ gr ≠ g ∧ gp ≠ g
  ins : Ow iv wr w.heap.size 3 x.A1 x.n1 x.c1 p.ins
  outs : Ow iv wr w.heap.size 3 x.A2 x.n2 x.c2 p.outs
  cells : OwS 2 cellE wr w.heap.size 83 x.A3 x.n3 x.c3 p.cells
  code : OwS 5 insE wr w.heap.size 91 x.A4 x.n4 x.c4 p.code
  rdr : RdrAt w wr g s
theorem RdrAt.ty {w0 w : World} {g : Nat} {s : RS} (h : RdrAt w0 w g s) {t : TypeId} {cs : List Value} (hb : Blk w g t cs) : t = 86 := by
  obtain ⟨_, _, A, n, c, hx, _⟩ := h
  exact Blk.ty2 hb hx
theorem DecAt.rdr' {w wr w' : World} {gr g gp : Nat} {x : PA} {p : PV} {s s' : RS} (h : DecAt w wr gr g gp x p s) (k : Keep (· = g) wr w') (hr : RdrAt w w' g s') : DecAt w w' gr g gp x p s' := by
  obtain ⟨h1, h2, h3, h4, h5, h6, h7, h8⟩ := h
  have hF : ∀ (e : TypeId), 86 ≠ e → ∀ b t cs, w.heap.size ≤ b → Blk wr b t cs → b = g → t ≠ e := fun e he b t cs _ hb e2 => by subst e2; rw [h8.ty hb]; exact he
  exact ⟨h1.keep k (fun e => h3.2.2.2.2 e), h2.keep k (fun e => h3.2.2.2.1 e), h3, h4.keepT k (hF _ (by decide)), h5.keepT k (hF _ (by decide)), h6.keepT k (hF _ (by decide)), h7.keepT k (hF _ (by decide)), hr⟩
theorem DecAt.start {w w2 : World} {B1 B2 : Option Addr} {nI d1 nO d2 : Nat} {lI lO : List Int} {s : RS} (z : Blk w2 w.heap.size 26 [.slice none 0 0, .slice none 0 0, .int .i64 0, .slice none 0 0, .slice none 0 0])
    (o1 : Ow iv w2 w.heap.size 3 B1 nI d1 lI) (o2 : Ow iv w2 w.heap.size 3 B2 nO d2 lO) (hr : RdrAt w w2 (w.heap.size + 1) s) (hs : w.heap.size + 2 ≤ w2.heap.size) :
    DecAt w (w2.alloc (.cells #[.slice B1 nI d1, .slice B2 nO d2, .int .i64 0, .slice none 0 0, .slice none 0 0] 26)) w.heap.size (w.heap.size + 1) w2.heap.size ⟨B1, nI, d1, B2, nO, d2, none, 0, 0, none, 0, 0⟩ ⟨lI, lO, 0, [], []⟩ s :=
  ⟨(by (repeat' (first | (with_reducible assumption) | (with_reducible refine Blk.top _ (by first | rfl | omega | (simp; done) | (simp; omega)) rfl) | (with_reducible refine Blk.alloc ?_ _) | (with_reducible refine Blk.drew ?_) | (with_reducible refine Blk.drewN ?_ _) | (with_reducible refine Blk.far ?_ (by first | omega | (simp; done) | (simp; omega)) _)))), z.alloc _, ⟨by omega, by omega, by omega, by omega, by omega⟩, o1.below ((Below.refl w2.heap.size _).alloc (Nat.le_refl _) _) (Nat.le_refl _), o2.below ((Below.refl w2.heap.size _).alloc (Nat.le_refl _) _) (Nat.le_refl _), OwS.nil _ _ _ _ _, OwS.nil _ _ _ _ _, hr.alloc _⟩
theorem DecAt.pcells {w wr : World} {gr g gp : Nat} {x : PA} {p : PV} {s : RS} (h : DecAt w wr gr g gp x p s) : wr.cell? ⟨gp, 0, none⟩ = some (.slice x.A1 x.n1 x.c1) ∧ wr.cell? ⟨gp, 1, none⟩ = some (.slice x.A2 x.n2 x.c2) ∧ wr.cell? ⟨gp, 2, none⟩ = some (.int .i64 p.regs) ∧ wr.cell? ⟨gp, 3, none⟩ = some (.slice x.A3 x.n3 x.c3) ∧ wr.cell? ⟨gp, 4, none⟩ = some (.slice x.A4 x.n4 x.c4) := blkc5 h.prog
theorem DecAt.regs {w wr : World} {gr g gp : Nat} {x : PA} {p : PV} {s : RS} (h : DecAt w wr gr g gp x p s) (r : Int) : DecAt w (wr.setCell ⟨gp, 2, none⟩ (.int .i64 r)) gr g gp x { p with regs := r } s := by
  obtain ⟨h1, h2, h3, h4, h5, h6, h7, h8⟩ := h
  have k : Keep (· = gp) wr (wr.setCell ⟨gp, 2, none⟩ (.int .i64 r)) := Keep.one (grown_setCell _)
  have hF : ∀ (e : TypeId), 26 ≠ e → ∀ b t cs, w.heap.size ≤ b → Blk wr b t cs → b = gp → t ≠ e := fun e he b t cs _ hb e2 => by subst e2; rw [Blk.ty2 hb h1]; exact he
  exact ⟨h1.set_ 2 _, h2.keep k (fun e => h3.1 e), h3, h4.keepT k (hF _ (by decide)), h5.keepT k (hF _ (by decide)), h6.keepT k (hF _ (by decide)), h7.keepT k (hF _ (by decide)), h8.keep k (fun x e => ⟨by rw [e]; exact h3.2.2.1, by rw [e]; exact h3.2.2.2.2⟩)⟩
/-- A cell is appended: the slice's row may have grown in place. -/
theorem DecAt.cell {w wr w5 : World} {gr g gp : Nat} {x : PA} {p : PV} {s : RS} {o : Obj} {A' : Option Addr} {c' : Nat} {l : List (Int × Int)} (h : DecAt w wr gr g gp x p s) (hg : (wr.alloc o).grownBy w5 (x.A3.map (·.block))) (hown : OwS 2 cellE w5 w.heap.size 83 A' (x.n3 + 1) c' l) :
    DecAt w (w5.setCell ⟨gp, 3, none⟩ (.slice A' (x.n3 + 1) c')) gr g gp { x with A3 := A', n3 := x.n3 + 1, c3 := c' } { p with cells := l } s := by
  obtain ⟨h1, h2, h3, h4, h5, h6, h7, h8⟩ := h
  have k5 : Keep (fun b => x.A3.map (·.block) = some b) wr w5 := ((Keep.refl _ _).alloc o).trans (G := fun b => x.A3.map (·.block) = some b) (Keep.of_grown hg (fun x e => e)) (fun _ _ e => e)
  have k : Keep (fun b => x.A3.map (·.block) = some b ∨ b = gp) wr (w5.setCell ⟨gp, 3, none⟩ (.slice A' (x.n3 + 1) c')) := (k5.mono (fun _ _ e => .inl e)).set_ _ (.inr rfl)
  have hA : ∀ b t cs, x.A3.map (·.block) = some b → Blk wr b t cs → t = 83 := fun b t cs e hb => by obtain ⟨_, cs', hc⟩ := h6.blk2 e; exact Blk.ty2 hb hc
  have hF : ∀ (e : TypeId), 26 ≠ e → 83 ≠ e → ∀ b t cs, w.heap.size ≤ b → Blk wr b t cs → (x.A3.map (·.block) = some b ∨ b = gp) → t ≠ e := fun e he he' b t cs _ hb e2 => by
    rcases e2 with e2 | e2
    · rw [hA b t cs e2 hb]; exact he'
    · subst e2; rw [Blk.ty2 hb h1]; exact he
  have hp5 : Blk w5 gp _ _ := h1.keep k5 (fun e => by have := hA gp _ _ e h1; revert this; decide)
  refine ⟨hp5.set_ 3 _, h2.keep k (fun e => ?_), h3, h4.keepT k (hF _ (by decide) (by decide)), h5.keepT k (hF _ (by decide) (by decide)), ?_, h7.keepT k (hF _ (by decide) (by decide)), h8.keep k (fun b e => ?_)⟩
  · rcases e with e | e
    · have := hA gr _ _ e h2; revert this; decide
    · exact h3.1 e
  · exact OwS.setFar hown hp5 (by decide) 3 _
  · rcases e with e | e
    · obtain ⟨hb, cs, hc⟩ := h6.blk2 e
      exact ⟨hb, fun e2 => by subst e2; have := h8.ty hc; revert this; decide⟩
    · rw [e]; exact ⟨h3.2.2.1, h3.2.2.2.2⟩
theorem DecAt.instr {w wr w5 : World} {gr g gp : Nat} {x : PA} {p : PV} {s : RS} {o : Obj} {A' : Option Addr} {c' : Nat} {l : List Ins} (h : DecAt w wr gr g gp x p s) (hg : (wr.alloc o).grownBy w5 (x.A4.map (·.block))) (hown : OwS 5 insE w5 w.heap.size 91 A' (x.n4 + 1) c' l) :
    DecAt w (w5.setCell ⟨gp, 4, none⟩ (.slice A' (x.n4 + 1) c')) gr g gp { x with A4 := A', n4 := x.n4 + 1, c4 := c' } { p with code := l } s := by
  obtain ⟨h1, h2, h3, h4, h5, h6, h7, h8⟩ := h
  have k5 : Keep (fun b => x.A4.map (·.block) = some b) wr w5 := ((Keep.refl _ _).alloc o).trans (G := fun b => x.A4.map (·.block) = some b) (Keep.of_grown hg (fun x e => e)) (fun _ _ e => e)
  have k : Keep (fun b => x.A4.map (·.block) = some b ∨ b = gp) wr (w5.setCell ⟨gp, 4, none⟩ (.slice A' (x.n4 + 1) c')) := (k5.mono (fun _ _ e => .inl e)).set_ _ (.inr rfl)
  have hA : ∀ b t cs, x.A4.map (·.block) = some b → Blk wr b t cs → t = 91 := fun b t cs e hb => by obtain ⟨_, cs', hc⟩ := h7.blk2 e; exact Blk.ty2 hb hc
  have hF : ∀ (e : TypeId), 26 ≠ e → 91 ≠ e → ∀ b t cs, w.heap.size ≤ b → Blk wr b t cs → (x.A4.map (·.block) = some b ∨ b = gp) → t ≠ e := fun e he he' b t cs _ hb e2 => by
    rcases e2 with e2 | e2
    · rw [hA b t cs e2 hb]; exact he'
    · subst e2; rw [Blk.ty2 hb h1]; exact he
  have hp5 : Blk w5 gp _ _ := h1.keep k5 (fun e => by have := hA gp _ _ e h1; revert this; decide)
  refine ⟨hp5.set_ 4 _, h2.keep k (fun e => ?_), h3, h4.keepT k (hF _ (by decide) (by decide)), h5.keepT k (hF _ (by decide) (by decide)), h6.keepT k (hF _ (by decide) (by decide)), ?_, h8.keep k (fun b e => ?_)⟩
  · rcases e with e | e
    · have := hA gr _ _ e h2; revert this; decide
    · exact h3.1 e
  · exact OwS.setFar hown hp5 (by decide) 4 _
  · rcases e with e | e
    · obtain ⟨hb, cs, hc⟩ := h7.blk2 e
      exact ⟨hb, fun e2 => by subst e2; have := h8.ty hc; revert this; decide⟩
    · rw [e]; exact ⟨h3.2.2.1, h3.2.2.2.2⟩
theorem DecAt.drew {w wr : World} {gr g gp : Nat} {x : PA} {p : PV} {s : RS} (h : DecAt w wr gr g gp x p s) : DecAt w wr.drew gr g gp x p s := by
  obtain ⟨h1, h2, h3, h4, h5, h6, h7, h8⟩ := h
  exact ⟨h1, h2, h3, h4, h5, h6, h7, ⟨Below.drew h8.1, h8.2⟩⟩
theorem DecAt.cellP {w wr w5 : World} {gr g gp : Nat} {x : PA} {p : PV} {s : RS} {o : Obj} (h : DecAt w wr gr g gp x p s) (hg : (wr.alloc o).grownBy w5 (x.A3.map (·.block))) : Blk w5 gp 26 [.slice x.A1 x.n1 x.c1, .slice x.A2 x.n2 x.c2, .int .i64 p.regs, .slice x.A3 x.n3 x.c3, .slice x.A4 x.n4 x.c4] :=
  h.prog.keep (((Keep.refl (fun b => x.A3.map (·.block) = some b) _).alloc o).trans (G := fun b => x.A3.map (·.block) = some b) (Keep.of_grown hg (fun x e => e)) (fun _ _ e => e)) (fun e => by obtain ⟨_, cs', hc⟩ := h.cells.blk2 e; have := Blk.ty2 h.prog hc; revert this; decide)
theorem DecAt.instrP {w wr w5 : World} {gr g gp : Nat} {x : PA} {p : PV} {s : RS} {o : Obj} (h : DecAt w wr gr g gp x p s) (hg : (wr.alloc o).grownBy w5 (x.A4.map (·.block))) : Blk w5 gp 26 [.slice x.A1 x.n1 x.c1, .slice x.A2 x.n2 x.c2, .int .i64 p.regs, .slice x.A3 x.n3 x.c3, .slice x.A4 x.n4 x.c4] :=
  h.prog.keep (((Keep.refl (fun b => x.A4.map (·.block) = some b) _).alloc o).trans (G := fun b => x.A4.map (·.block) = some b) (Keep.of_grown hg (fun x e => e)) (fun _ _ e => e)) (fun e => by obtain ⟨_, cs', hc⟩ := h.code.blk2 e; have := Blk.ty2 h.prog hc; revert this; decide)
theorem DecAt.fin {w wr w' : World} {gr g gp : Nat} {x : PA} {p : PV} {s : RS} (h : DecAt w wr gr g gp x p s) (k : Keep (· = gr) wr w') : ProgRd w' x p ∧ Below w.heap.size w w' := by
  obtain ⟨h1, h2, h3, h4, h5, h6, h7, h8⟩ := h
  have hF : ∀ (e : TypeId), 26 ≠ e → ∀ b t cs, w.heap.size ≤ b → Blk wr b t cs → b = gr → t ≠ e := fun e he b t cs _ hb e2 => by subst e2; rw [Blk.ty2 hb h2]; exact he
  exact ⟨⟨(h4.keepT k (hF _ (by decide))).rd.ri, (h5.keepT k (hF _ (by decide))).rd.ri, (h6.keepT k (hF _ (by decide))).rd, (h7.keepT k (hF _ (by decide))).rd, h4.cap, h5.cap, h6.cap, h7.cap⟩, h8.1.trans (k.below (fun x e => by rw [e]; exact h3.2.1) h8.1.size)⟩
theorem elemCell : ElemOf Try.prog 23 83 (.agg #[.int .i64 0, .int .i64 0]) 2 16 := ElemOf.mk' Try.underlying23 (by kernel_rfl) rfl (by decide)
theorem elemIns : ElemOf Try.prog 24 91 (.agg #[.int .i64 0, .int .i64 0, .int .i64 0, .int .i64 0, .int .i64 0]) 5 40 := ElemOf.mk' Try.underlying24 (by kernel_rfl) rfl (by decide)
theorem cellE_one (x : Int × Int) : ∀ u ∈ cellE x, u.oneCell' = true := by
  intro u hu
  simp only [cellE, List.mem_cons, List.not_mem_nil, or_false] at hu
  rcases hu with rfl | rfl <;> rfl
theorem insE_one (x : Ins) : ∀ u ∈ insE x, u.oneCell' = true := by
  intro u hu
  simp only [insE, List.mem_cons, List.not_mem_nil, or_false] at hu
  rcases hu with rfl | rfl | rfl | rfl | rfl <;> rfl
end Go.Proofs.Ytkhihgilodhjfaa
