/- Parts: DiskF, DiskH, DiskJ, DiskI, DiskL. -/
import Derived.Test.YtpmkpckldnnigaaGreatPr18
import Derived.Test.YtpmkpckldnnigaaGreatPr15
import Derived.Test.YtpmkpckldnnigaaGreatPr01
namespace Go.Proofs.YtpmkpckldnnigaaGreat
open Go.RowKit
set_option linter.unusedVariables false
set_option linter.unusedSimpArgs false
section
variable {w : World} {base : Nat} {p : DiskP} {A : Option Addr} {c : Nat} {D : DiskV}
def CrPost (w : World) (base : Nat) (p : DiskP) (A : Option Addr) (D' : DiskV) (e : Ending) (w' : World) : Prop := e = .returned (.tuple #[]) ∧ DiskNext w base p A D' w'
theorem CrPost.mk {w' : World} {cs : List UInt8} {k : Nat} (hk : k = min D.waits.length cs.length) (h : DiskAt w' base p none 0 { D with kept := (crashK D.waits cs (D.kept, D.inuse) k).1, inuse := (crashK D.waits cs (D.kept, D.inuse) k).2, waits := [], off := false, cut := -1, now := (crashK D.waits cs (D.kept, D.inuse) k).1, might := (crashK D.waits cs (D.kept, D.inuse) k).2 }) (kp : Keep (foot p A) w w') :
    CrPost w base p A (crashV D cs) (.returned (.tuple #[])) w' := by
  subst hk
  exact ⟨rfl, none, 0, h, kp, fun g e => by cases e⟩
end
end Go.Proofs.YtpmkpckldnnigaaGreat
namespace Go.Proofs.YtpmkpckldnnigaaGreat
open Go.RowKit
set_option linter.unusedVariables false
set_option linter.unusedSimpArgs false
theorem MeterAt.drewD {w : World} {g : Nat} {l : List Int} (h : MeterAt w g l) : MeterAt w.drew g l := h
end Go.Proofs.YtpmkpckldnnigaaGreat
namespace Go.Proofs.YtpmkpckldnnigaaGreat
open Go.RowKit
set_option linter.unusedVariables false
set_option linter.unusedSimpArgs false
end Go.Proofs.YtpmkpckldnnigaaGreat
namespace Go.Proofs.YtpmkpckldnnigaaGreat
open Go.RowKit
set_option linter.unusedVariables false
set_option linter.unusedSimpArgs false
section
variable {w : World} {base : Nat} {p : DiskP} {A : Option Addr} {c : Nat} {D : DiskV}
end
end Go.Proofs.YtpmkpckldnnigaaGreat
namespace Go.Proofs.YtpmkpckldnnigaaGreat
open Go.RowKit
set_option linter.unusedVariables false
set_option linter.unusedSimpArgs false
section
variable {w w' : World} {base : Nat} {p : DiskP} {A : Option Addr} {c : Nat} {D : DiskV}
theorem DiskAt.foot_ty (h : DiskAt w base p A c D) {g : Nat} {t : TypeId} {cs : List Value} (hb : Blk w g t cs) (hg : foot p A g) : t = 151 ∨ t = 152 ∨ t = 4 ∨ t = 282 ∨ t = 154 := by
  have ty : ∀ {t' : TypeId} {cs' : List Value}, Blk w g t' cs' → t = t' := fun h' => by
    unfold Blk at hb h'
    rw [hb] at h'
    injection h' with h'
    injection h' with _ ht
  rcases hg with rfl | rfl | rfl | rfl | rfl | rfl | hg
  · exact .inl (ty h.st)
  · exact .inr (.inl (ty h.bk))
  · exact .inr (.inl (ty h.bn))
  · exact .inr (.inr (.inl (ty h.bi)))
  · exact .inr (.inr (.inl (ty h.bm)))
  · exact .inr (.inr (.inr (.inl (ty h.mt.2))))
  · rcases h.wa.2 with ⟨hv, _⟩ | ⟨g', cap, cur, hv, _, hh, _⟩
    · injection hv with hv; subst hv; cases hg
    · injection hv with hv
      subst hv
      simp only [Option.map_some, Option.some.injEq] at hg
      subst hg
      exact .inr (.inr (.inr (.inr (ty (cs' := cur.toList) (by unfold Blk; rw [hh])))))
/-- A block of another kind is as it was behind what is done to a disk. -/
theorem DiskAt.spares (h : DiskAt w base p A c D) {g : Nat} {t : TypeId} {cs : List Value} (hb : Blk w g t cs) (k : Keep (foot p A) w w') (h1 : t ≠ 151) (h2 : t ≠ 152) (h3 : t ≠ 4) (h4 : t ≠ 282) (h5 : t ≠ 154) : Blk w' g t cs :=
  hb.keep k (fun e => by rcases h.foot_ty hb e with q | q | q | q | q; exact h1 q; exact h2 q; exact h3 q; exact h4 q; exact h5 q)
end
/-- A disk, wherever its pieces lie. -/
def DiskS (w : World) (base : Nat) (p : DiskP) (D : DiskV) : Prop := ∃ A c, DiskAt w base p A c D
theorem DiskNext.s {w w' : World} {base : Nat} {p : DiskP} {A : Option Addr} {D : DiskV} (h : DiskNext w base p A D w') : DiskS w' base p D := by
  obtain ⟨A', c', h, _⟩ := h; exact ⟨A', c', h⟩
theorem DiskAt.rebase {w : World} {base base' : Nat} {p : DiskP} {A : Option Addr} {c : Nat} {D : DiskV} (h : DiskAt w base p A c D) (hb : base' ≤ base) : DiskAt w base' p A c D :=
  ⟨h.ok, h.st, h.bk, h.bn, h.bi, h.bm, h.mt, (h.waS.rebase hb).2, h.ne1, h.ne2, fun g hg => Nat.le_trans hb (h.bs g hg)⟩
theorem DiskAt.s {w : World} {base : Nat} {p : DiskP} {A : Option Addr} {c : Nat} {D : DiskV} (h : DiskAt w base p A c D) : DiskS w base p D := ⟨A, c, h⟩
theorem DiskS.below {w w' : World} {base : Nat} {p : DiskP} {D : DiskV} (h : DiskS w base p D) (hb : Below w.heap.size w w') : DiskS w' base p D := by
  obtain ⟨A, c, h⟩ := h; exact ⟨A, c, h.below hb⟩
theorem DiskS.rebase {w : World} {base base' : Nat} {p : DiskP} {D : DiskV} (h : DiskS w base p D) (hb : base' ≤ base) : DiskS w base' p D := by
  obtain ⟨A, c, h⟩ := h; exact ⟨A, c, h.rebase hb⟩
end Go.Proofs.YtpmkpckldnnigaaGreat
namespace Go.Proofs.YtpmkpckldnnigaaGreat
open Go.RowKit
set_option linter.unusedVariables false
set_option linter.unusedSimpArgs false
def TwoAt (w : World) (base : Nat) (p q : DiskP) (D E : DiskV) : Prop :=
  ∃ A a B b, DiskAt w base p A a D ∧ DiskAt w base q B b E ∧ ∀ g, foot p A g → ¬ foot q B g
section
variable {w w' : World} {base : Nat} {p q : DiskP} {A B : Option Addr} {a b : Nat} {D D' E E' : DiskV}
theorem DiskNext.far (h : DiskNext w base p A D' w') : ∃ A' c', DiskAt w' base p A' c' D' ∧ ∀ g, foot p A' g → foot p A g ∨ w.heap.size ≤ g := by
  obtain ⟨A', c', h1, k, n⟩ := h
  refine ⟨A', c', h1, fun g hg => ?_⟩
  rcases hg with e | e | e | e | e | e | e
  · exact .inl (.inl e)
  · exact .inl (.inr (.inl e))
  · exact .inl (.inr (.inr (.inl e)))
  · exact .inl (.inr (.inr (.inr (.inl e))))
  · exact .inl (.inr (.inr (.inr (.inr (.inl e)))))
  · exact .inl (.inr (.inr (.inr (.inr (.inr (.inl e))))))
  · rcases n g e with h | h
    · exact .inl (.inr (.inr (.inr (.inr (.inr (.inr h))))))
    · exact .inr h
theorem TwoAt.below (h : TwoAt w base p q D E) (hb : Below w.heap.size w w') : TwoAt w' base p q D E := by
  obtain ⟨A, a, B, b, h1, h2, h3⟩ := h
  exact ⟨A, a, B, b, h1.below hb, h2.below hb, h3⟩
end
end Go.Proofs.YtpmkpckldnnigaaGreat
