/- Parts: RDiskD, RDiskF. -/
import Derived.Test.YtpmkpckldnnigaaGreatPr38
import Derived.Test.YtpmkpckldnnigaaGreatPr17
import Derived.Deep.DeepCutAuto
namespace Go.Proofs.YtpmkpckldnnigaaGreat
open Go.RowKit
set_option linter.unusedVariables false
set_option linter.unusedSimpArgs false
/-- A disk behind a call that may have made its row of pieces anew. -/
def RNext (w : World) (base : Nat) (q : RDiskP) (A : Option Addr) (ck ci : Nat) (D' : DiskV) (w' : World) : Prop := ∃ A' c', RDiskAt w' base q A' c' ck ci D' ∧ Keep (fun g => rfoot q A g) w w'
section
variable {F : Nat → Prop} {w w' : World} {base : Nat} {q : RDiskP} {A : Option Addr} {c ck ci : Nat} {D : DiskV}
theorem RNext.same (h : RDiskAt w base q A c ck ci D) (hb : Below w.heap.size w w') : RNext w base q A ck ci D w' := ⟨A, c, h.below hb, Keep.of_below hb⟩
theorem RNext.head {D' : DiskV} (h : RDiskAt w' base q A c ck ci D') (k : Keep (fun g => g = q.d ∨ g = q.go) w w') : RNext w base q A ck ci D' w' := ⟨A, c, h, k.mono (fun g _ e => by rcases e with e | e; exact .inl e; exact .inr (.inr (.inr (.inl e))))⟩
end
end Go.Proofs.YtpmkpckldnnigaaGreat
namespace Go.Proofs.YtpmkpckldnnigaaGreat
open Go.RowKit
set_option linter.unusedVariables false
set_option linter.unusedSimpArgs false
section
variable {F : Nat → Prop} {w w' : World} {base : Nat} {q : RDiskP} {A : Option Addr} {c ck ci : Nat} {D : DiskV}
/-- A sector's row turned. -/
theorem KeptAt.set_ {gk many n : Nat} {kept L : List UInt8} (h : KeptAt w base gk many ck kept) (hk : kept.length = many * 128) (hn : n < many) {x : SlV} (hx : Whole x) (hb : BytesAt w base x L) (hL : L.length = 128) : KeptAt (w.setCell ⟨gk, n, none⟩ (slV x)) base gk many ck (splice kept (n * 128) L) := by
  obtain ⟨hs, ho, hc⟩ := h
  have hF : ∀ g, g = gk → base ≤ g ∧ ∀ cs, ¬ Blk w g 5 cs := fun g e => by
    subst e
    obtain ⟨cs, hb⟩ := ho.blk (g := g) rfl
    exact ⟨(ho.lt g rfl).1, not_u8 hb (by decide)⟩
  have k : Keep (fun g => g = gk) w (w.setCell ⟨gk, n, none⟩ (slV x)) := Keep.one (grown_setCell _)
  refine ⟨hs.set n x, ho.set n x _ rfl, fun j y hy => ?_⟩
  have hjl : j < many := by
    have := (List.getElem?_eq_some_iff.1 hy).1
    rw [List.length_set, ho.1] at this
    exact this
  rw [secOf_splice hk hL hn hjl]
  rw [List.getElem?_set] at hy
  split at hy
  · rename_i e
    subst e
    rw [if_pos (by rw [ho.1]; exact hn)] at hy
    injection hy with hy
    subst hy
    rw [if_pos rfl]
    exact ⟨hx, hb.keepF k hF⟩
  · rename_i e
    rw [if_neg (fun e' => e e'.symm)]
    exact ⟨(hc j y hy).1, (hc j y hy).2.keepF k hF⟩
theorem WaitAt.nil (w : World) (base : Nat) : WaitAt w base none 0 [] := ⟨[], ⟨rfl, World.ownsRow_nil w base _ 2⟩, fun k x h => by simp at h⟩
end
end Go.Proofs.YtpmkpckldnnigaaGreat
namespace Go.Proofs.YtpmkpckldnnigaaGreat
open Go.RowKit
set_option linter.unusedVariables false
set_option linter.unusedSimpArgs false
section
variable {F : Nat → Prop} {w w' : World} {base : Nat} {q : RDiskP} {A : Option Addr} {c ck ci : Nat} {D : DiskV}
theorem KeptAt.row {gk many k : Nat} {kept : List UInt8} (h : KeptAt w base gk many ck kept) (hk : k < many) : ∃ x : SlV, w.cell? ⟨gk, k, none⟩ = some (slV x) ∧ Whole x ∧ BytesAt w base x (secOf kept (k : Int)) := by
  obtain ⟨hs, ho, hx⟩ := h
  have hl : k < hs.length := by rw [ho.1]; exact hk
  obtain ⟨b, o, e1, hlt, hc⟩ := ho.rd.2.at_ hk
  injection e1 with e1
  injection e1 with e2 e3 _
  subst e2 e3
  rw [getD_map hs k hl, Nat.zero_add] at hc
  obtain ⟨q1, q2⟩ := hx k _ (List.getElem?_eq_getElem hl)
  exact ⟨hs[k], hc, q1, q2⟩
theorem RB.cut {n k cap : Nat} {B : Option Addr} {l : List UInt8} (h : RB w B n l) (hk : k ≤ n) (hc : n ≤ cap) : RB w (if cap = k then B else B.map (·.add k)) (n - k) (l.drop k) := by
  refine ⟨by rw [List.length_drop, h.1], (h.2.cut hk hc).congr fun i hi => ?_⟩
  unfold byteAt
  rw [List.getD_eq_getElem?_getD, List.getD_eq_getElem?_getD, List.getElem?_drop]
end
end Go.Proofs.YtpmkpckldnnigaaGreat
