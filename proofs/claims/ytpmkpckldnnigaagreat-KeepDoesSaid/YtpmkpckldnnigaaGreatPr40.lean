/- Parts: RDiskG. -/
import Derived.Test.YtpmkpckldnnigaaGreatPr39
import Derived.Deep.DeepCutAuto
namespace Go.Proofs.YtpmkpckldnnigaaGreat
open Go.RowKit
set_option linter.unusedVariables false
set_option linter.unusedSimpArgs false
section
variable {w w' : World} {base : Nat} {q : RDiskP} {A : Option Addr} {c ck ci : Nat} {D : DiskV}
end
/-- A disk that is being made: each sector a block of its own. -/
def rowsOf (gs : List Nat) : List SlV := gs.map fun g => ⟨some ⟨g, 0, none⟩, 128, 128⟩
structure RNewAt (w : World) (base d go : Nat) (KA IA : Option Addr) (ck ci : Nat) (gs : List Nat) (img : List UInt8) (ins : List Bool) (room : Int) : Prop where
  st : Blk w d 124 [.slice KA gs.length ck, .slice IA gs.length ci, .slice none 0 0, .int .i64 room, .int .i64 (-1), .bool false, .slice (some ⟨go, 0, none⟩) 3 3]
  kept : Ow slV w base 22 KA gs.length ck (rowsOf gs)
  inu : Ow boolV w base 4 IA gs.length ci ins
  op : Blk w go 3 [.int .i64 0, .int .i64 0, .int .i64 0]
  rows : ∀ (j g : Nat), gs[j]? = some g → base ≤ g ∧ Blk w g 5 ((secOf img (j : Int)).map bv)
  nd : gs.Nodup
  bd : base ≤ d
  bo : base ≤ go
section
variable {w w' : World} {base d go : Nat} {KA IA : Option Addr} {ck ci : Nat} {gs : List Nat} {img : List UInt8} {ins : List Bool} {room : Int}
theorem RNewAt.below (h : RNewAt w base d go KA IA ck ci gs img ins room) (hb : Below w.heap.size w w') : RNewAt w' base d go KA IA ck ci gs img ins room :=
  ⟨h.st.below hb h.st.lt, h.kept.below hb (Nat.le_refl _), h.inu.below hb (Nat.le_refl _), h.op.below hb h.op.lt, fun j g hg => ⟨(h.rows j g hg).1, (h.rows j g hg).2.below hb (h.rows j g hg).2.lt⟩, h.nd, h.bd, h.bo⟩
end
section
variable {w w' : World}
end
end Go.Proofs.YtpmkpckldnnigaaGreat
namespace Go.Proofs.YtpmkpckldnnigaaGreat
open Go.RowKit
set_option linter.unusedVariables false
set_option linter.unusedSimpArgs false
section
variable {w w' : World}
theorem RNewAt.rebase {base base' d go : Nat} {KA IA : Option Addr} {ck ci : Nat} {gs : List Nat} {img : List UInt8} {ins : List Bool} {room : Int} (h : RNewAt w base d go KA IA ck ci gs img ins room) (hb : base' ≤ base) : RNewAt w base' d go KA IA ck ci gs img ins room :=
  ⟨h.st, h.kept.rebase hb, h.inu.rebase hb, h.op, fun j g hg => ⟨Nat.le_trans hb (h.rows j g hg).1, (h.rows j g hg).2⟩, h.nd, Nat.le_trans hb h.bd, Nat.le_trans hb h.bo⟩
/-- It is a disk. -/
theorem RNewAt.disk {base d go gk gi : Nat} {ck ci : Nat} {gs : List Nat} {many k : Nat} {img : List UInt8} {room : Int} (h : RNewAt w base d go (some ⟨gk, 0, none⟩) (some ⟨gi, 0, none⟩) ck ci gs (imgK img many k) (trueK many k) room) (hgs : gs.length = many) (h0 : 1 ≤ many) (h1 : many ≤ 4096) (r0 : 0 ≤ room) (r1 : room ≤ many) (hi : img.length ≤ many * 128) (hk : (k : Int) ≤ room) :
    RDiskAt w base ⟨d, gk, gi, go⟩ none 0 ck ci (loadD many room img k) := by
  refine ⟨loadD_ok h0 h1 r0 r1 hi (by omega), cons_load (by omega) hk, rfl, ?_, ⟨rowsOf gs, ?_, fun j x hx => ?_⟩, ?_, WaitAt.nil _ _, h.op, h.bd, h.bo⟩
  · have := h.st
    rw [hgs] at this
    exact this
  · have := h.kept
    rw [hgs] at this
    exact this
  · unfold rowsOf at hx
    rw [List.getElem?_map] at hx
    cases hg : gs[j]? with
    | none => rw [hg] at hx; cases hx
    | some g =>
      rw [hg] at hx
      simp only [Option.map_some, Option.some.injEq] at hx
      subst hx
      obtain ⟨hb, hbk⟩ := h.rows j g hg
      have hjm : j < many := by have := (List.getElem?_eq_some_iff.1 hg).1; omega
      have hl : (secOf (imgK img many k) (j : Int)).length = 128 := secOf_len (s := many) (imgK_len hi) (by omega) (by omega)
      have hr : RB w (some ⟨g, 0, none⟩) 128 (secOf (imgK img many k) (j : Int)) := by
        have := RB.of_block (l := secOf (imgK img many k) (j : Int)) hbk rfl
        rw [hl] at this
        exact this
      exact ⟨⟨rfl, Nat.le_refl _, by show 128 ≤ maxLen; unfold maxLen; omega⟩, hr, by show 128 ≤ maxLen; unfold maxLen; omega, fun _ g' hg' => (by
        simp only [Option.map_some, Option.some.injEq] at hg'
        subst hg'
        exact .inr ⟨_, hbk⟩)⟩
  · have := h.inu
    rw [hgs] at this
    exact this
end
end Go.Proofs.YtpmkpckldnnigaaGreat
