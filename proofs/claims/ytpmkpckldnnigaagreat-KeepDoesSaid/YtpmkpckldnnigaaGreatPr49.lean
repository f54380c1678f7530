/- Parts: KeepT. -/
import Derived.Test.YtpmkpckldnnigaaGreatPr47
import Derived.Test.YtpmkpckldnnigaaGreatPr48
import Derived.Deep.DeepCutAuto
import Derived.Deep.CutBlock
namespace Go.Proofs.YtpmkpckldnnigaaGreat
open Go.RowKit
set_option linter.unusedVariables false
set_option linter.unusedSimpArgs false
/-- What saving changes, besides the document's disk. -/
def RKSaved (base : Nat) (q : RDiskP) (gs g : Nat) (w w' : World) : Prop :=
  ∃ (w1 : World) (cs ds : List Value), RStep base q w w1 ∧ Blk w1 gs 142 cs ∧ Blk w1 g 61 ds ∧ Keep (fun b => b = gs ∨ b = g) w1 w' ∧ Below base w1 w'
section
variable {w w' : World} {base g : Nat} {q : RDiskP} {D : DiskV} {x : PA} {p : PV} {hash tick : Int} {k : KpV} {A : Option Addr} {n c : Nat} {cells : List Int}
section
variable {gs : Nat}
theorem RKSaved.blk (h : RKSaved base q gs g w w') (hd : RDiskS w base q D) {b : Nat} {t : TypeId} {cs : List Value} (hb : Blk w b t cs) (ht : t ∉ [124, 156, 22, 4, 3]) (h1 : t ≠ 142) (h2 : t ≠ 61) : Blk w' b t cs := by
  obtain ⟨w1, cs1, ds, kr, hb1, hd1, kk, bb⟩ := h
  have h9 := hd.blk hb kr ht
  exact h9.keep kk (fun e => by rcases e with e | e; exact h9.ne_ hb1 h1 e; exact h9.ne_ hd1 h2 e)
theorem RKSaved.ints {l : List Int} (h : RKSaved base q gs g w w') (hd : RDiskS w base q D) (hg : base ≤ gs ∧ base ≤ g) (H : IntsAt w base A n l) (hne : 0 < n → ∀ b, A.map (·.block) = some b → b ≠ q.go) : IntsAt w' base A n l := by
  obtain ⟨w1, cs1, ds, kr, hb1, hd1, kk, bb⟩ := h
  exact (H.rstepQ hne hd kr).keepF kk (fun b e => by rcases e with rfl | rfl; exact ⟨hg.1, not_int hb1 (by decide)⟩; exact ⟨hg.2, not_int hd1 (by decide)⟩)
theorem RKSaved.bytes {s : SlV} {L : List UInt8} (h : RKSaved base q gs g w w') (hd : RDiskS w base q D) (hg : base ≤ gs ∧ base ≤ g) (H : BytesAt w base s L) : BytesAt w' base s L := by
  obtain ⟨w1, cs1, ds, kr, hb1, hd1, kk, bb⟩ := h
  exact (H.rstep hd kr).keepF kk (fun b e => by rcases e with rfl | rfl; exact ⟨hg.1, not_u8 hb1 (by decide)⟩; exact ⟨hg.2, not_u8 hd1 (by decide)⟩)
theorem RKSaved.disk {pd : DiskP} {E : DiskV} (h : RKSaved base q gs g w w') (r : RDiskS w base q D) (H : DiskS w base pd E) (h1 : q.gi ≠ pd.gi) (h2 : q.gi ≠ pd.gm) : DiskS w' base pd E := by
  obtain ⟨w1, cs1, ds, kr, hb1, hd1, kk, bb⟩ := h
  obtain ⟨A9, c9, h9⟩ := H.rstep r kr h1 h2
  exact ⟨A9, c9, h9.keep kk (fun b hf e => by
    rcases e with e | e
    · subst e
      rcases h9.foot_ty hb1 hf with q | q | q | q | q <;> exact absurd q (by decide)
    · subst e
      rcases h9.foot_ty hd1 hf with q | q | q | q | q <;> exact absurd q (by decide))⟩
theorem RKSaved.slots {ga gb g1 : Nat} {s : SlV3} (h : RKSaved base q gs g w w') (r : RDiskS w base q D) (hg : base ≤ gs ∧ base ≤ g) (H : SlotsAt w base g1 ga gb s) : SlotsAt w' base g1 ga gb s := by
  obtain ⟨B, n, c, h1, h2, h3, h4, h5, h6⟩ := H
  exact ⟨B, n, c, h.blk r h1 (by decide) (by decide) (by decide), h2, h3, h.bytes r hg h4, h5, h6⟩
theorem RKSaved.bel (h : RKSaved base q gs g w w') : Below base w w' := by
  obtain ⟨w1, cs1, ds, kr, hb1, hd1, kk, bb⟩ := h
  exact kr.bel.trans bb
theorem KeepAtX.rksaved {ga gb g1 : Nat} (h : KeepAtX (· = q.go) w base g1 ga gb x p hash k) (kk : RKSaved base q gs g w w') (hd : RDiskS w base q D) (hg : base ≤ gs ∧ base ≤ g) (hP : ProgAt w' base x p) : KeepAtX (· = q.go) w' base g1 ga gb x p hash k := by
  obtain ⟨gs1, A, n, c, b1, b2, b3, b4, b5, b6, b7, b8, b9⟩ := h
  exact ⟨gs1, A, n, c, kk.blk hd b1 (by decide) (by decide) (by decide), b2, b3, kk.slots hd hg b4, kk.ints hd hg b5 (fun _ b e => b9 b e), b6, b7, hP, b9⟩
end
end
end Go.Proofs.YtpmkpckldnnigaaGreat
