/- A disk that is written by a list of what is done: what the laws' loops know. Two disks beside each other. -/
import Derived.Test.YtalmdccgpigppaaDiskJ
import Derived.Test.YtalmdccgpigppaaDiskI
import Derived.Test.YtalmdccgpigppaaMem
namespace Go.Proofs.Ytalmdccgpigppaa
open Go.RowKit
set_option linter.unusedVariables false
set_option linter.unusedSimpArgs false
section
variable {w w' : World} {base : Nat} {p : DiskP} {A : Option Addr} {c : Nat} {D : DiskV}
theorem DiskAt.foot_ty (h : DiskAt w base p A c D) {g : Nat} {t : TypeId} {cs : List Value} (hb : Blk w g t cs) (hg : foot p A g) : t = 119 ∨ t = 128 ∨ t = 4 ∨ t = 217 ∨ t = 130 := by
  have ty : ∀ {t' : TypeId} {cs' : List Value}, Blk w g t' cs' → t = t' := fun h' => by
    unfold Blk at hb h'
    rw [hb] at h'
    injection h' with h'
    injection h' with _ ht
  rcases hg with rfl | rfl | rfl | rfl | rfl | rfl | hg
  · exact .inl (ty h.st)
  · exact .inr (.inl (ty h.bk))
  · exact .inr (.inl (ty h.bn))
  · exact .inr (.inr (.inl (ty h.bi)))
  · exact .inr (.inr (.inl (ty h.bm)))
  · exact .inr (.inr (.inr (.inl (ty h.mt.2))))
  · rcases h.wa.2 with ⟨hv, _⟩ | ⟨g', cap, cur, hv, _, hh, _⟩
    · injection hv with hv; subst hv; cases hg
    · injection hv with hv
      subst hv
      simp only [Option.map_some, Option.some.injEq] at hg
      subst hg
      exact .inr (.inr (.inr (.inr (ty (cs' := cur.toList) (by unfold Blk; rw [hh])))))
/-- A block of another kind is as it was behind what is done to a disk. -/
theorem DiskAt.spares (h : DiskAt w base p A c D) {g : Nat} {t : TypeId} {cs : List Value} (hb : Blk w g t cs) (k : Keep (foot p A) w w') (h1 : t ≠ 119) (h2 : t ≠ 128) (h3 : t ≠ 4) (h4 : t ≠ 217) (h5 : t ≠ 130) : Blk w' g t cs :=
  hb.keep k (fun e => by rcases h.foot_ty hb e with q | q | q | q | q; exact h1 q; exact h2 q; exact h3 q; exact h4 q; exact h5 q)
end
/-- A disk, wherever its pieces lie. -/
def DiskS (w : World) (base : Nat) (p : DiskP) (D : DiskV) : Prop := ∃ A c, DiskAt w base p A c D
theorem DiskNext.s {w w' : World} {base : Nat} {p : DiskP} {A : Option Addr} {D : DiskV} (h : DiskNext w base p A D w') : DiskS w' base p D := by
  obtain ⟨A', c', h, _⟩ := h; exact ⟨A', c', h⟩
theorem wrK_yes {D : DiskV} {l : List DoV} {k : Nat} {x : DoV} (hx : l[k]? = some x) (h : x.kind = 1) : wrK D l (k + 1) = (writeV (wrK D l k) x.n (fullL x.b)).1 := by
  have e : doAt l k = x := by unfold doAt; rw [List.getD_eq_getElem?_getD, hx]; rfl
  show (if (doAt l k).kind = 1 then _ else _) = _
  rw [e, if_pos h]
theorem wrK_no {D : DiskV} {l : List DoV} {k : Nat} {x : DoV} (hx : l[k]? = some x) (h : x.kind ≠ 1) : wrK D l (k + 1) = wrK D l k := by
  have e : doAt l k = x := by unfold doAt; rw [List.getD_eq_getElem?_getD, hx]; rfl
  show (if (doAt l k).kind = 1 then _ else _) = _
  rw [e, if_neg h]
theorem DiskAt.rebase {w : World} {base base' : Nat} {p : DiskP} {A : Option Addr} {c : Nat} {D : DiskV} (h : DiskAt w base p A c D) (hb : base' ≤ base) : DiskAt w base' p A c D :=
  ⟨h.ok, h.st, h.bk, h.bn, h.bi, h.bm, h.mt, (h.waS.rebase hb).2, h.ne1, h.ne2, fun g hg => Nat.le_trans hb (h.bs g hg)⟩
theorem DiskAt.s {w : World} {base : Nat} {p : DiskP} {A : Option Addr} {c : Nat} {D : DiskV} (h : DiskAt w base p A c D) : DiskS w base p D := ⟨A, c, h⟩
theorem DiskS.below {w w' : World} {base : Nat} {p : DiskP} {D : DiskV} (h : DiskS w base p D) (hb : Below w.heap.size w w') : DiskS w' base p D := by
  obtain ⟨A, c, h⟩ := h; exact ⟨A, c, h.below hb⟩
theorem DiskS.rebase {w : World} {base base' : Nat} {p : DiskP} {D : DiskV} (h : DiskS w base p D) (hb : base' ≤ base) : DiskS w base' p D := by
  obtain ⟨A, c, h⟩ := h; exact ⟨A, c, h.rebase hb⟩
theorem run_index_arr {P : Program} {t e : TypeId} {n : Nat} (hu : P.underlying t = some (.array n e)) (he : P.plainKey e = true) (hs : (P.info? e).map (·.size) = some 1) {cs : List Value} {i : Nat} (hi : i < n) {v : Value} (hv : cs[i]? = some v) (W : World) :
    (Instr.index t (.agg cs.toArray) (.int .i64 (i : Int))).run P W = .ok v W := by
  have hn : (0 : Int) ≤ (i : Int) ∧ (i : Int) < (n : Int) := by omega
  cases hq : P.info? e with
  | none => simp [hq] at hs
  | some x =>
    have hsz : x.size = 1 := by simpa [hq] using hs
    have hp : (part e cs.toArray i).run P W = .ok v W := run_part_plain W he (by simpa using hv)
    simp [Instr.index, run_underlying hu, asIntOf, hn, sizeOf, typeInfo, hq, hsz, hp, hi]
end Go.Proofs.Ytalmdccgpigppaa
namespace Go.Proofs.Ytalmdccgpigppaa
open Go.RowKit
set_option linter.unusedVariables false
set_option linter.unusedSimpArgs false
theorem DosRd.get {w : World} {A : Option Addr} {n k : Nat} {l : List DoV} {x : DoV} (h : DosRd w A n l) (hx : l[k]? = some x) :
    ∃ b o B m d, A = some ⟨b, o, none⟩ ∧ RB w B m x.b ∧ m ≤ d ∧ d ≤ maxLen ∧ (-9223372036854775808 ≤ x.n ∧ x.n ≤ 9223372036854775807) ∧
      ∀ (w' : World) (B0 : Nat), Below B0 w w' → w.heap.size ≤ B0 → b < w'.heap.size ∧ w'.cell? ⟨b, o + k * 3, none⟩ = some (.int .i64 x.kind) ∧ w'.cell? ⟨b, o + k * 3 + 1, none⟩ = some (.int .i64 x.n) ∧ w'.cell? ⟨b, o + k * 3 + 2, none⟩ = some (.slice B m d) := by
  obtain ⟨b, o, B, m, c, hA, hlt, c0, c1, c2, hr, hm, hc, _, hn⟩ := h.2 k x hx
  refine ⟨b, o, B, m, c, hA, hr, hm, hc, hn, fun w' B0 hb hB => ?_⟩
  have hs := hb.size
  exact ⟨by omega, (hb.cell (p := ⟨b, o + k * 3 + 0, none⟩) (by show b < B0; omega)).trans c0, (hb.cell (p := ⟨b, o + k * 3 + 1, none⟩) (by show b < B0; omega)).trans c1, (hb.cell (p := ⟨b, o + k * 3 + 2, none⟩) (by show b < B0; omega)).trans c2⟩
def TwoAt (w : World) (base : Nat) (p q : DiskP) (D E : DiskV) : Prop :=
  ∃ A a B b, DiskAt w base p A a D ∧ DiskAt w base q B b E ∧ ∀ g, foot p A g → ¬ foot q B g
section
variable {w w' : World} {base : Nat} {p q : DiskP} {A B : Option Addr} {a b : Nat} {D D' E E' : DiskV}
theorem DiskNext.far (h : DiskNext w base p A D' w') : ∃ A' c', DiskAt w' base p A' c' D' ∧ ∀ g, foot p A' g → foot p A g ∨ w.heap.size ≤ g := by
  obtain ⟨A', c', h1, k, n⟩ := h
  refine ⟨A', c', h1, fun g hg => ?_⟩
  rcases hg with e | e | e | e | e | e | e
  · exact .inl (.inl e)
  · exact .inl (.inr (.inl e))
  · exact .inl (.inr (.inr (.inl e)))
  · exact .inl (.inr (.inr (.inr (.inl e))))
  · exact .inl (.inr (.inr (.inr (.inr (.inl e)))))
  · exact .inl (.inr (.inr (.inr (.inr (.inr (.inl e))))))
  · rcases n g e with h | h
    · exact .inl (.inr (.inr (.inr (.inr (.inr (.inr h))))))
    · exact .inr h
theorem two_first (hE : DiskAt w base q B b E) (hap : ∀ g, foot p A g → ¬ foot q B g) (hN : DiskNext w base p A D' w') : TwoAt w' base p q D' E := by
  obtain ⟨A', a', h1, hf⟩ := hN.far
  obtain ⟨_, _, _, k, _⟩ := hN
  refine ⟨A', a', B, b, h1, hE.keep k (fun g hg e => hap g e hg), fun g hg hq => ?_⟩
  rcases hf g hg with h | h
  · exact hap g h hq
  · have := hE.lt g hq; omega
theorem two_second (hD : DiskAt w base p A a D) (hap : ∀ g, foot p A g → ¬ foot q B g) (hN : DiskNext w base q B E' w') : TwoAt w' base p q D E' := by
  obtain ⟨B', b', h1, hf⟩ := hN.far
  obtain ⟨_, _, _, k, _⟩ := hN
  refine ⟨A, a, B', b', hD.keep k (fun g hg e => hap g hg e), h1, fun g hg hq => ?_⟩
  rcases hf g hq with h | h
  · exact hap g hg h
  · have := hD.lt g hg; omega
theorem TwoAt.below (h : TwoAt w base p q D E) (hb : Below w.heap.size w w') : TwoAt w' base p q D E := by
  obtain ⟨A, a, B, b, h1, h2, h3⟩ := h
  exact ⟨A, a, B, b, h1.below hb, h2.below hb, h3⟩
end
/-- An own row of another kind is as it was behind what is done to a disk. -/
theorem DiskAt.sparesOw {α : Type} {enc : α → Value} {w w' : World} {base b n d c : Nat} {e : TypeId} {p : DiskP} {A B : Option Addr} {D : DiskV} {l : List α} (h : DiskAt w base p A c D) (ho : Ow enc w b e B n d l) (k : Keep (foot p A) w w')
    (h1 : e ≠ 119) (h2 : e ≠ 128) (h3 : e ≠ 4) (h4 : e ≠ 217) (h5 : e ≠ 130) : Ow enc w' b e B n d l :=
  ⟨ho.1, own_keep ho.2 k (fun g hg hf => by
    rcases ho.2.2 with ⟨hv, _⟩ | ⟨g', cap, cur, hv, _, hh, _⟩
    · rw [hv] at hg; cases hg
    · rw [hv] at hg
      have : g' = g := by simpa [Value.ownBlock] using hg
      subst this
      rcases h.foot_ty (t := e) (cs := cur.toList) (by unfold Blk; rw [hh]) hf with q | q | q | q | q
      · exact h1 q
      · exact h2 q
      · exact h3 q
      · exact h4 q
      · exact h5 q)⟩
/-- All that waits, whole: it is a flush. -/
theorem byteAt_rep {N k : Nat} (h : k < N) : byteAt (List.replicate N (128 : UInt8)) k = 128 := by
  unfold byteAt; rw [List.getD_eq_getElem?_getD, List.getElem?_replicate, if_pos h]; rfl
theorem crash_all {D : DiskV} (h : D.Ok) : ∀ k, k ≤ D.waits.length → crashK D.waits (List.replicate D.waits.length 128) (D.kept, D.inuse) k = keepK D.waits (D.kept, D.inuse) k := by
  intro k
  induction k with
  | zero => intro _; rfl
  | succ k ih =>
    intro hk
    obtain ⟨_, p2⟩ := pieceAt_ok h (show k < D.waits.length by omega)
    unfold crashK keepK
    rw [ih (by omega), byteAt_rep (by omega), if_pos (by omega), List.take_of_length_le (by rw [p2]; omega)]
theorem whole_same {D : DiskV} (h : Calm D) : (crashV D (List.replicate D.waits.length 128)).kept = (flushD (goesV D 3)).kept ∧ (crashV D (List.replicate D.waits.length 128)).might = (flushD (goesV D 3)).might := by
  have hc := crash_all h.ok D.waits.length (Nat.le_refl _)
  refine ⟨?_, ?_⟩
  · show (crashK _ _ _ _).1 = (keepK _ _ _).1
    rw [List.length_replicate, Nat.min_self, hc]; rfl
  · show (crashK _ _ _ _).2 = D.might
    rw [List.length_replicate, Nat.min_self, hc, h.might]
theorem crash_none (D : DiskV) : (crashV D []).kept = D.kept ∧ (crashV D []).might = D.inuse ∧ (crashV D []).waits = [] ∧ (crashV D []).room = D.room := by
  refine ⟨?_, ?_, rfl, rfl⟩
  · show (crashK _ _ _ (min D.waits.length 0)).1 = _
    rw [Nat.min_zero]; rfl
  · show (crashK _ _ _ (min D.waits.length 0)).2 = _
    rw [Nat.min_zero]; rfl
theorem wrK_inuse (D : DiskV) (l : List DoV) : ∀ k, (wrK D l k).inuse = D.inuse ∧ (wrK D l k).room = D.room := by
  intro k
  induction k with
  | zero => exact ⟨rfl, rfl⟩
  | succ k ih =>
    unfold wrK
    split
    · refine ⟨?_, ?_⟩
      · rw [← ih.1]; unfold writeV; split; rfl; split; rfl; rfl
      · rw [← ih.2]; unfold writeV; split; rfl; split; rfl; rfl
    · exact ih
end Go.Proofs.Ytalmdccgpigppaa
