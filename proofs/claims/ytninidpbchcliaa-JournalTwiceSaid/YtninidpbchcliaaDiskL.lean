/- A disk that is written by a list of what is done: what the laws' loops know. -/
import Derived.Test.YtninidpbchcliaaDiskJ
import Derived.Test.YtninidpbchcliaaDiskI
namespace Go.Proofs.Ytninidpbchcliaa
open Go.RowKit
set_option linter.unusedVariables false
set_option linter.unusedSimpArgs false
section
variable {w w' : World} {base : Nat} {p : DiskP} {A : Option Addr} {c : Nat} {D : DiskV}
theorem DiskAt.foot_ty (h : DiskAt w base p A c D) {g : Nat} {t : TypeId} {cs : List Value} (hb : Blk w g t cs) (hg : foot p A g) : t = 50 ∨ t = 33 ∨ t = 4 ∨ t = 145 ∨ t = 133 := by
  have ty : ∀ {t' : TypeId} {cs' : List Value}, Blk w g t' cs' → t = t' := fun h' => by
    unfold Blk at hb h'
    rw [hb] at h'
    injection h' with h'
    injection h' with _ ht
  rcases hg with rfl | rfl | rfl | rfl | rfl | rfl | hg
  · exact .inl (ty h.st)
  · exact .inr (.inl (ty h.bk))
  · exact .inr (.inl (ty h.bn))
  · exact .inr (.inr (.inl (ty h.bi)))
  · exact .inr (.inr (.inl (ty h.bm)))
  · exact .inr (.inr (.inr (.inl (ty h.mt.2))))
  · rcases h.wa.2 with ⟨hv, _⟩ | ⟨g', cap, cur, hv, _, hh, _⟩
    · injection hv with hv; subst hv; cases hg
    · injection hv with hv
      subst hv
      simp only [Option.map_some, Option.some.injEq] at hg
      subst hg
      exact .inr (.inr (.inr (.inr (ty (cs' := cur.toList) (by unfold Blk; rw [hh])))))
/-- A block of another kind is as it was behind what is done to a disk. -/
theorem DiskAt.spares (h : DiskAt w base p A c D) {g : Nat} {t : TypeId} {cs : List Value} (hb : Blk w g t cs) (k : Keep (foot p A) w w') (h1 : t ≠ 50) (h2 : t ≠ 33) (h3 : t ≠ 4) (h4 : t ≠ 145) (h5 : t ≠ 133) : Blk w' g t cs :=
  hb.keep k (fun e => by rcases h.foot_ty hb e with q | q | q | q | q; exact h1 q; exact h2 q; exact h3 q; exact h4 q; exact h5 q)
end
/-- A disk, wherever its pieces lie. -/
def DiskS (w : World) (base : Nat) (p : DiskP) (D : DiskV) : Prop := ∃ A c, DiskAt w base p A c D
theorem DiskNext.s {w w' : World} {base : Nat} {p : DiskP} {A : Option Addr} {D : DiskV} (h : DiskNext w base p A D w') : DiskS w' base p D := by
  obtain ⟨A', c', h, _⟩ := h; exact ⟨A', c', h⟩
theorem wrK_yes {D : DiskV} {l : List DoV} {k : Nat} {x : DoV} (hx : l[k]? = some x) (h : x.kind = 1) : wrK D l (k + 1) = (writeV (wrK D l k) x.n (fullL x.b)).1 := by
  have e : doAt l k = x := by unfold doAt; rw [List.getD_eq_getElem?_getD, hx]; rfl
  show (if (doAt l k).kind = 1 then _ else _) = _
  rw [e, if_pos h]
theorem wrK_no {D : DiskV} {l : List DoV} {k : Nat} {x : DoV} (hx : l[k]? = some x) (h : x.kind ≠ 1) : wrK D l (k + 1) = wrK D l k := by
  have e : doAt l k = x := by unfold doAt; rw [List.getD_eq_getElem?_getD, hx]; rfl
  show (if (doAt l k).kind = 1 then _ else _) = _
  rw [e, if_neg h]
theorem DiskAt.rebase {w : World} {base base' : Nat} {p : DiskP} {A : Option Addr} {c : Nat} {D : DiskV} (h : DiskAt w base p A c D) (hb : base' ≤ base) : DiskAt w base' p A c D :=
  ⟨h.ok, h.st, h.bk, h.bn, h.bi, h.bm, h.mt, (h.waS.rebase hb).2, h.ne1, h.ne2, fun g hg => Nat.le_trans hb (h.bs g hg)⟩
theorem DiskAt.s {w : World} {base : Nat} {p : DiskP} {A : Option Addr} {c : Nat} {D : DiskV} (h : DiskAt w base p A c D) : DiskS w base p D := ⟨A, c, h⟩
theorem DiskS.below {w w' : World} {base : Nat} {p : DiskP} {D : DiskV} (h : DiskS w base p D) (hb : Below w.heap.size w w') : DiskS w' base p D := by
  obtain ⟨A, c, h⟩ := h; exact ⟨A, c, h.below hb⟩
theorem DiskS.rebase {w : World} {base base' : Nat} {p : DiskP} {D : DiskV} (h : DiskS w base p D) (hb : base' ≤ base) : DiskS w base' p D := by
  obtain ⟨A, c, h⟩ := h; exact ⟨A, c, h.rebase hb⟩
theorem run_index_arr {P : Program} {t e : TypeId} {n : Nat} (hu : P.underlying t = some (.array n e)) (he : P.plainKey e = true) (hs : (P.info? e).map (·.size) = some 1) {cs : List Value} {i : Nat} (hi : i < n) {v : Value} (hv : cs[i]? = some v) (W : World) :
    (Instr.index t (.agg cs.toArray) (.int .i64 (i : Int))).run P W = .ok v W := by
  have hn : (0 : Int) ≤ (i : Int) ∧ (i : Int) < (n : Int) := by omega
  cases hq : P.info? e with
  | none => simp [hq] at hs
  | some x =>
    have hsz : x.size = 1 := by simpa [hq] using hs
    have hp : (part e cs.toArray i).run P W = .ok v W := run_part_plain W he (by simpa using hv)
    simp [Instr.index, run_underlying hu, asIntOf, hn, sizeOf, typeInfo, hq, hsz, hp, hi]
end Go.Proofs.Ytninidpbchcliaa
