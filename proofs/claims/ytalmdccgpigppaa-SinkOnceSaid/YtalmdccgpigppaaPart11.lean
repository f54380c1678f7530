/- Parts: DiskJ, DiskI, DiskL, AreaA, AreaB. -/
import Derived.Test.YtalmdccgpigppaaPart05
import Derived.Test.YtalmdccgpigppaaPart10
import Derived.Test.YtalmdccgpigppaaPart09
import Derived.Test.YtalmdccgpigppaaPart01
import Derived.Test.YtalmdccgpigppaaPart06
namespace Go.Proofs.Ytalmdccgpigppaa
open Go.RowKit
set_option linter.unusedVariables false
set_option linter.unusedSimpArgs false
theorem DiskAt.belowK {w w' : World} {base : Nat} {p : DiskP} {A : Option Addr} {c : Nat} {D : DiskV} (h : DiskAt w base p A c D) (k : Keep (foot p A) w w') (hb : base ≤ w.heap.size) : Below base w w' := k.below h.bs hb
def D6a : DiskV := newV 3 3
def D6b : DiskV := (writeV D6a 1 (fullL [7])).1
def D6c : DiskV := crashV D6b [2]
theorem d6_facts : D6a.many = 3 ∧ D6a.room - (trues D6a.might : Nat) = 3 ∧ mayV D6c 1 = 0 ∧ byteAt (secOf D6c.now 1) 0 = 7 ∧ byteAt (secOf D6c.now 1) 1 = 7 ∧ byteAt (secOf D6c.now 1) 2 = 0 ∧ (readV' D6c).room - (trues (readV' D6c).might : Nat) = 2 ∧ D6a.waits.length = 0 ∧ D6c.now.length = 384 := by decide +kernel
end Go.Proofs.Ytalmdccgpigppaa
namespace Go.Proofs.Ytalmdccgpigppaa
open Go.RowKit
set_option linter.unusedVariables false
set_option linter.unusedSimpArgs false
section
variable {w : World} {base : Nat} {p : DiskP} {A : Option Addr} {c : Nat} {D : DiskV}
theorem run_slice_all {P : Program} {t e : TypeId} {n : Nat} (hu : P.underlying t = some (.array n e)) (hs : (P.info? e).map (·.size) = some 1) (g o : Nat) (W : World) :
    (Instr.sliceAt t (.pointer (some ⟨g, o, none⟩)) none none none).run P W = .ok (.slice (some ⟨g, o, none⟩) n n) W := by
  have e1 : P.arrayLen t = n := by unfold Program.arrayLen; rw [hu]
  have e2 : P.elem t = e := by unfold Program.elem; rw [hu]
  cases hq : P.info? e with
  | none => simp [hq] at hs
  | some i =>
    have hsz : i.size = 1 := by simpa [hq] using hs
    rw [run_sliceAt_array_all W t ⟨g, o, none⟩ (by rw [e1, e2]; exact hu), e2, e1]
    have hso : (sizeOf e).run P W = .ok 1 W := by simp [sizeOf, typeInfo, hq, hsz]
    have hadd : (⟨g, o, none⟩ : Addr).add 0 = ⟨g, o, none⟩ := by simp [Addr.add]
    rw [hso]
    simp [slicedAt, hadd]
theorem take_sec {l : List UInt8} {k : Nat} : l.take (k * 128) ++ (l.drop (k * 128)).take 128 = l.take ((k + 1) * 128) := by
  rw [show (k + 1) * 128 = k * 128 + 128 by omega, List.take_add]
end
end Go.Proofs.Ytalmdccgpigppaa
namespace Go.Proofs.Ytalmdccgpigppaa
open Go.RowKit
set_option linter.unusedVariables false
set_option linter.unusedSimpArgs false
section
variable {w w' : World} {base : Nat} {p : DiskP} {A : Option Addr} {c : Nat} {D : DiskV}
theorem DiskAt.foot_ty (h : DiskAt w base p A c D) {g : Nat} {t : TypeId} {cs : List Value} (hb : Blk w g t cs) (hg : foot p A g) : t = 119 ∨ t = 128 ∨ t = 4 ∨ t = 217 ∨ t = 130 := by
  have ty : ∀ {t' : TypeId} {cs' : List Value}, Blk w g t' cs' → t = t' := fun h' => by
    unfold Blk at hb h'
    rw [hb] at h'
    injection h' with h'
    injection h' with _ ht
  rcases hg with rfl | rfl | rfl | rfl | rfl | rfl | hg
  · exact .inl (ty h.st)
  · exact .inr (.inl (ty h.bk))
  · exact .inr (.inl (ty h.bn))
  · exact .inr (.inr (.inl (ty h.bi)))
  · exact .inr (.inr (.inl (ty h.bm)))
  · exact .inr (.inr (.inr (.inl (ty h.mt.2))))
  · rcases h.wa.2 with ⟨hv, _⟩ | ⟨g', cap, cur, hv, _, hh, _⟩
    · injection hv with hv; subst hv; cases hg
    · injection hv with hv
      subst hv
      simp only [Option.map_some, Option.some.injEq] at hg
      subst hg
      exact .inr (.inr (.inr (.inr (ty (cs' := cur.toList) (by unfold Blk; rw [hh])))))
/-- A block of another kind is as it was behind what is done to a disk. -/
theorem DiskAt.spares (h : DiskAt w base p A c D) {g : Nat} {t : TypeId} {cs : List Value} (hb : Blk w g t cs) (k : Keep (foot p A) w w') (h1 : t ≠ 119) (h2 : t ≠ 128) (h3 : t ≠ 4) (h4 : t ≠ 217) (h5 : t ≠ 130) : Blk w' g t cs :=
  hb.keep k (fun e => by rcases h.foot_ty hb e with q | q | q | q | q; exact h1 q; exact h2 q; exact h3 q; exact h4 q; exact h5 q)
end
/-- A disk, wherever its pieces lie. -/
def DiskS (w : World) (base : Nat) (p : DiskP) (D : DiskV) : Prop := ∃ A c, DiskAt w base p A c D
theorem DiskNext.s {w w' : World} {base : Nat} {p : DiskP} {A : Option Addr} {D : DiskV} (h : DiskNext w base p A D w') : DiskS w' base p D := by
  obtain ⟨A', c', h, _⟩ := h; exact ⟨A', c', h⟩
theorem wrK_yes {D : DiskV} {l : List DoV} {k : Nat} {x : DoV} (hx : l[k]? = some x) (h : x.kind = 1) : wrK D l (k + 1) = (writeV (wrK D l k) x.n (fullL x.b)).1 := by
  have e : doAt l k = x := by unfold doAt; rw [List.getD_eq_getElem?_getD, hx]; rfl
  show (if (doAt l k).kind = 1 then _ else _) = _
  rw [e, if_pos h]
theorem wrK_no {D : DiskV} {l : List DoV} {k : Nat} {x : DoV} (hx : l[k]? = some x) (h : x.kind ≠ 1) : wrK D l (k + 1) = wrK D l k := by
  have e : doAt l k = x := by unfold doAt; rw [List.getD_eq_getElem?_getD, hx]; rfl
  show (if (doAt l k).kind = 1 then _ else _) = _
  rw [e, if_neg h]
theorem DiskAt.rebase {w : World} {base base' : Nat} {p : DiskP} {A : Option Addr} {c : Nat} {D : DiskV} (h : DiskAt w base p A c D) (hb : base' ≤ base) : DiskAt w base' p A c D :=
  ⟨h.ok, h.st, h.bk, h.bn, h.bi, h.bm, h.mt, (h.waS.rebase hb).2, h.ne1, h.ne2, fun g hg => Nat.le_trans hb (h.bs g hg)⟩
theorem DiskAt.s {w : World} {base : Nat} {p : DiskP} {A : Option Addr} {c : Nat} {D : DiskV} (h : DiskAt w base p A c D) : DiskS w base p D := ⟨A, c, h⟩
theorem DiskS.below {w w' : World} {base : Nat} {p : DiskP} {D : DiskV} (h : DiskS w base p D) (hb : Below w.heap.size w w') : DiskS w' base p D := by
  obtain ⟨A, c, h⟩ := h; exact ⟨A, c, h.below hb⟩
theorem DiskS.rebase {w : World} {base base' : Nat} {p : DiskP} {D : DiskV} (h : DiskS w base p D) (hb : base' ≤ base) : DiskS w base' p D := by
  obtain ⟨A, c, h⟩ := h; exact ⟨A, c, h.rebase hb⟩
theorem run_index_arr {P : Program} {t e : TypeId} {n : Nat} (hu : P.underlying t = some (.array n e)) (he : P.plainKey e = true) (hs : (P.info? e).map (·.size) = some 1) {cs : List Value} {i : Nat} (hi : i < n) {v : Value} (hv : cs[i]? = some v) (W : World) :
    (Instr.index t (.agg cs.toArray) (.int .i64 (i : Int))).run P W = .ok v W := by
  have hn : (0 : Int) ≤ (i : Int) ∧ (i : Int) < (n : Int) := by omega
  cases hq : P.info? e with
  | none => simp [hq] at hs
  | some x =>
    have hsz : x.size = 1 := by simpa [hq] using hs
    have hp : (part e cs.toArray i).run P W = .ok v W := run_part_plain W he (by simpa using hv)
    simp [Instr.index, run_underlying hu, asIntOf, hn, sizeOf, typeInfo, hq, hsz, hp, hi]
end Go.Proofs.Ytalmdccgpigppaa
namespace Go.Proofs.Ytalmdccgpigppaa
open Go.RowKit
set_option linter.unusedVariables false
set_option linter.unusedSimpArgs false
theorem DosRd.get {w : World} {A : Option Addr} {n k : Nat} {l : List DoV} {x : DoV} (h : DosRd w A n l) (hx : l[k]? = some x) :
    ∃ b o B m d, A = some ⟨b, o, none⟩ ∧ RB w B m x.b ∧ m ≤ d ∧ d ≤ maxLen ∧ (-9223372036854775808 ≤ x.n ∧ x.n ≤ 9223372036854775807) ∧
      ∀ (w' : World) (B0 : Nat), Below B0 w w' → w.heap.size ≤ B0 → b < w'.heap.size ∧ w'.cell? ⟨b, o + k * 3, none⟩ = some (.int .i64 x.kind) ∧ w'.cell? ⟨b, o + k * 3 + 1, none⟩ = some (.int .i64 x.n) ∧ w'.cell? ⟨b, o + k * 3 + 2, none⟩ = some (.slice B m d) := by
  obtain ⟨b, o, B, m, c, hA, hlt, c0, c1, c2, hr, hm, hc, _, hn⟩ := h.2 k x hx
  refine ⟨b, o, B, m, c, hA, hr, hm, hc, hn, fun w' B0 hb hB => ?_⟩
  have hs := hb.size
  exact ⟨by omega, (hb.cell (p := ⟨b, o + k * 3 + 0, none⟩) (by show b < B0; omega)).trans c0, (hb.cell (p := ⟨b, o + k * 3 + 1, none⟩) (by show b < B0; omega)).trans c1, (hb.cell (p := ⟨b, o + k * 3 + 2, none⟩) (by show b < B0; omega)).trans c2⟩
def TwoAt (w : World) (base : Nat) (p q : DiskP) (D E : DiskV) : Prop :=
  ∃ A a B b, DiskAt w base p A a D ∧ DiskAt w base q B b E ∧ ∀ g, foot p A g → ¬ foot q B g
section
variable {w w' : World} {base : Nat} {p q : DiskP} {A B : Option Addr} {a b : Nat} {D D' E E' : DiskV}
theorem DiskNext.far (h : DiskNext w base p A D' w') : ∃ A' c', DiskAt w' base p A' c' D' ∧ ∀ g, foot p A' g → foot p A g ∨ w.heap.size ≤ g := by
  obtain ⟨A', c', h1, k, n⟩ := h
  refine ⟨A', c', h1, fun g hg => ?_⟩
  rcases hg with e | e | e | e | e | e | e
  · exact .inl (.inl e)
  · exact .inl (.inr (.inl e))
  · exact .inl (.inr (.inr (.inl e)))
  · exact .inl (.inr (.inr (.inr (.inl e))))
  · exact .inl (.inr (.inr (.inr (.inr (.inl e)))))
  · exact .inl (.inr (.inr (.inr (.inr (.inr (.inl e))))))
  · rcases n g e with h | h
    · exact .inl (.inr (.inr (.inr (.inr (.inr (.inr h))))))
    · exact .inr h
theorem two_first (hE : DiskAt w base q B b E) (hap : ∀ g, foot p A g → ¬ foot q B g) (hN : DiskNext w base p A D' w') : TwoAt w' base p q D' E := by
  obtain ⟨A', a', h1, hf⟩ := hN.far
  obtain ⟨_, _, _, k, _⟩ := hN
  refine ⟨A', a', B, b, h1, hE.keep k (fun g hg e => hap g e hg), fun g hg hq => ?_⟩
  rcases hf g hg with h | h
  · exact hap g h hq
  · have := hE.lt g hq; omega
theorem two_second (hD : DiskAt w base p A a D) (hap : ∀ g, foot p A g → ¬ foot q B g) (hN : DiskNext w base q B E' w') : TwoAt w' base p q D E' := by
  obtain ⟨B', b', h1, hf⟩ := hN.far
  obtain ⟨_, _, _, k, _⟩ := hN
  refine ⟨A, a, B', b', hD.keep k (fun g hg e => hap g hg e), h1, fun g hg hq => ?_⟩
  rcases hf g hq with h | h
  · exact hap g hg h
  · have := hD.lt g hg; omega
theorem TwoAt.below (h : TwoAt w base p q D E) (hb : Below w.heap.size w w') : TwoAt w' base p q D E := by
  obtain ⟨A, a, B, b, h1, h2, h3⟩ := h
  exact ⟨A, a, B, b, h1.below hb, h2.below hb, h3⟩
end
/-- An own row of another kind is as it was behind what is done to a disk. -/
theorem DiskAt.sparesOw {α : Type} {enc : α → Value} {w w' : World} {base b n d c : Nat} {e : TypeId} {p : DiskP} {A B : Option Addr} {D : DiskV} {l : List α} (h : DiskAt w base p A c D) (ho : Ow enc w b e B n d l) (k : Keep (foot p A) w w')
    (h1 : e ≠ 119) (h2 : e ≠ 128) (h3 : e ≠ 4) (h4 : e ≠ 217) (h5 : e ≠ 130) : Ow enc w' b e B n d l :=
  ⟨ho.1, own_keep ho.2 k (fun g hg hf => by
    rcases ho.2.2 with ⟨hv, _⟩ | ⟨g', cap, cur, hv, _, hh, _⟩
    · rw [hv] at hg; cases hg
    · rw [hv] at hg
      have : g' = g := by simpa [Value.ownBlock] using hg
      subst this
      rcases h.foot_ty (t := e) (cs := cur.toList) (by unfold Blk; rw [hh]) hf with q | q | q | q | q
      · exact h1 q
      · exact h2 q
      · exact h3 q
      · exact h4 q
      · exact h5 q)⟩
/-- All that waits, whole: it is a flush. -/
theorem byteAt_rep {N k : Nat} (h : k < N) : byteAt (List.replicate N (128 : UInt8)) k = 128 := by
  unfold byteAt; rw [List.getD_eq_getElem?_getD, List.getElem?_replicate, if_pos h]; rfl
theorem crash_all {D : DiskV} (h : D.Ok) : ∀ k, k ≤ D.waits.length → crashK D.waits (List.replicate D.waits.length 128) (D.kept, D.inuse) k = keepK D.waits (D.kept, D.inuse) k := by
  intro k
  induction k with
  | zero => intro _; rfl
  | succ k ih =>
    intro hk
    obtain ⟨_, p2⟩ := pieceAt_ok h (show k < D.waits.length by omega)
    unfold crashK keepK
    rw [ih (by omega), byteAt_rep (by omega), if_pos (by omega), List.take_of_length_le (by rw [p2]; omega)]
theorem whole_same {D : DiskV} (h : Calm D) : (crashV D (List.replicate D.waits.length 128)).kept = (flushD (goesV D 3)).kept ∧ (crashV D (List.replicate D.waits.length 128)).might = (flushD (goesV D 3)).might := by
  have hc := crash_all h.ok D.waits.length (Nat.le_refl _)
  refine ⟨?_, ?_⟩
  · show (crashK _ _ _ _).1 = (keepK _ _ _).1
    rw [List.length_replicate, Nat.min_self, hc]; rfl
  · show (crashK _ _ _ _).2 = D.might
    rw [List.length_replicate, Nat.min_self, hc, h.might]
theorem crash_none (D : DiskV) : (crashV D []).kept = D.kept ∧ (crashV D []).might = D.inuse ∧ (crashV D []).waits = [] ∧ (crashV D []).room = D.room := by
  refine ⟨?_, ?_, rfl, rfl⟩
  · show (crashK _ _ _ (min D.waits.length 0)).1 = _
    rw [Nat.min_zero]; rfl
  · show (crashK _ _ _ (min D.waits.length 0)).2 = _
    rw [Nat.min_zero]; rfl
theorem wrK_inuse (D : DiskV) (l : List DoV) : ∀ k, (wrK D l k).inuse = D.inuse ∧ (wrK D l k).room = D.room := by
  intro k
  induction k with
  | zero => exact ⟨rfl, rfl⟩
  | succ k ih =>
    unfold wrK
    split
    · refine ⟨?_, ?_⟩
      · rw [← ih.1]; unfold writeV; split; rfl; split; rfl; rfl
      · rw [← ih.2]; unfold writeV; split; rfl; split; rfl; rfl
    · exact ih
end Go.Proofs.Ytalmdccgpigppaa
namespace Go.Proofs.Ytalmdccgpigppaa
open Go.RowKit
set_option linter.unusedVariables false
set_option linter.unusedSimpArgs false

def AreaAt (w : World) (ga d f m : Nat) : Prop := Blk w ga 169 [.pointer (some ⟨d, 0, none⟩), .int .i64 (f : Int), .int .i64 (m : Int)]
/-- What a sector of a disk has; the error. -/
def readV (D : DiskV) (n : Int) : DiskV × List UInt8 × Int := if mayV D n ≠ 0 then (D, zerosL, mayV D n) else (readV' D, secOf D.now n, 0)
theorem readV_len {D : DiskV} (h : D.Ok) (n : Int) : (readV D n).2.1.length = 128 := by
  unfold readV
  split
  · exact zerosL_len
  · rename_i hm
    obtain ⟨_, h0, h1⟩ := mayV_zero (D := D) (n := n) (by omega)
    exact secOf_len h.now h0 h1
section
variable {w w' : World} {base ga f m : Nat} {p : DiskP} {A : Option Addr} {c : Nat} {D : DiskV}
theorem AreaAt.below {d : Nat} (h : AreaAt w ga d f m) (hb : Below w.heap.size w w') : AreaAt w' ga d f m := Blk.below h hb h.lt
theorem AreaAt.keep {d : Nat} {F : Nat → Prop} (h : AreaAt w ga d f m) (k : Keep F w w') (hF : ¬ F ga) : AreaAt w' ga d f m := Blk.keep h k hF
theorem AreaAt.notFoot {d : Nat} (h : AreaAt w ga d f m) (hd : DiskAt w base p A c D) : ¬ foot p A ga := fun e => by
  rcases hd.foot_ty h e with q | q | q | q | q <;> exact absurd q (by decide)
theorem AreaAt.spares {d : Nat} (h : AreaAt w ga d f m) (hd : DiskAt w base p A c D) (k : Keep (foot p A) w w') : AreaAt w' ga d f m := h.keep k (h.notFoot hd)
theorem dread_any (h : DiskAt w base p A c D) (n : Int) : Calls Try.prog 107 #[.pointer (some ⟨p.d, 0, none⟩), .int .i64 n] w fun e w' =>
    e = .returned (.tuple #[aggB (readV D n).2.1, .int .i64 (readV D n).2.2]) ∧ DiskAt w' base p A c (readV D n).1 ∧ Keep (foot p A) w w' := by
  unfold readV
  by_cases hn : mayV D n = 0
  · rw [if_neg (by omega)]; exact read_yes h n hn
  · rw [if_pos hn]; exact (read_no h n hn).mono fun e w' ⟨h1, h2⟩ => ⟨h1, h.below h2, Keep.of_below h2⟩
theorem many_any {d : Nat} (h : AreaAt w ga d f m) : Calls Try.prog 47 #[.pointer (some ⟨ga, 0, none⟩)] w fun e w' => e = .returned (.int .i64 (m : Nat)) ∧ w = w' := by
  have c2 : w.cell? ⟨ga, 2, none⟩ = some (.int .i64 (m : Int)) := Blk.cell h 2
  clear h
  go_enter Try.func47, Try.ntmps47
  go_wp2
  go_ret
  exact ⟨rfl, rfl⟩
theorem many_nil (w : World) : Calls Try.prog 47 #[.pointer none] w fun e w' => e = .returned (.int .i64 0) ∧ w = w' := by
  go_enter Try.func47, Try.ntmps47
  go_wp2
  go_ret
  exact ⟨rfl, rfl⟩
/-! 'at' within the area: what the closure does at the disk's sector. -/
set_option maxRecDepth 100000 in
theorem at_read {d : Nat} {x1 x2 : Value} {R : Int → World → Prop} (h : AreaAt w ga d f m) (n : Int) (h0 : 0 ≤ n) (h1 : n < m) (hfm : f + m ≤ 4096)
    (hF : Calls Try.prog 106 #[.int .i64 ((f : Int) + n), x1, x2] w (fun e w' => ∃ z, e = .returned (.int .i64 z) ∧ R z w')) :
    Calls Try.prog 105 #[.pointer (some ⟨ga, 0, none⟩), .int .i64 n, .func (.func 106) #[] #[x1, x2]] w fun e w' => ∃ z, e = .returned (.int .i64 z) ∧ R z w' := by
  have c0 : w.cell? ⟨ga, 0, none⟩ = some (.pointer (some ⟨d, 0, none⟩)) := Blk.cell h 0
  have c1 : w.cell? ⟨ga, 1, none⟩ = some (.int .i64 (f : Int)) := Blk.cell h 1
  have c2 : w.cell? ⟨ga, 2, none⟩ = some (.int .i64 (m : Int)) := Blk.cell h 2
  clear h
  go_enter Try.func105, Try.ntmps105
  go_wp2_with (first
    | ((go_at_call 106; (with_reducible refine (hF).mono ?_); rintro e w2 ⟨z, rfl, hR⟩))
    | fail "no arm")
  go_ret
  exact ⟨z, rfl, hR⟩
set_option maxRecDepth 100000 in
theorem at_write {d : Nat} {x1 x2 : Value} {R : Int → World → Prop} (h : AreaAt w ga d f m) (n : Int) (h0 : 0 ≤ n) (h1 : n < m) (hfm : f + m ≤ 4096)
    (hF : Calls Try.prog 109 #[.int .i64 ((f : Int) + n), x1, x2] w (fun e w' => ∃ z, e = .returned (.int .i64 z) ∧ R z w')) :
    Calls Try.prog 105 #[.pointer (some ⟨ga, 0, none⟩), .int .i64 n, .func (.func 109) #[] #[x1, x2]] w fun e w' => ∃ z, e = .returned (.int .i64 z) ∧ R z w' := by
  have c0 : w.cell? ⟨ga, 0, none⟩ = some (.pointer (some ⟨d, 0, none⟩)) := Blk.cell h 0
  have c1 : w.cell? ⟨ga, 1, none⟩ = some (.int .i64 (f : Int)) := Blk.cell h 1
  have c2 : w.cell? ⟨ga, 2, none⟩ = some (.int .i64 (m : Int)) := Blk.cell h 2
  clear h
  go_enter Try.func105, Try.ntmps105
  go_wp2_with (first
    | ((go_at_call 109; (with_reducible refine (hF).mono ?_); rintro e w2 ⟨z, rfl, hR⟩))
    | fail "no arm")
  go_ret
  exact ⟨z, rfl, hR⟩
set_option maxRecDepth 100000 in
theorem at_out {d k : Nat} {caps : Array Value} (h : AreaAt w ga d f m) (n : Int) (hn : n < 0 ∨ (m : Int) ≤ n) :
    Calls Try.prog 105 #[.pointer (some ⟨ga, 0, none⟩), .int .i64 n, .func (.func k) #[] caps] w fun e w' => e = .returned (.int .i64 51) ∧ w = w' := by
  have c0 : w.cell? ⟨ga, 0, none⟩ = some (.pointer (some ⟨d, 0, none⟩)) := Blk.cell h 0
  have c2 : w.cell? ⟨ga, 2, none⟩ = some (.int .i64 (m : Int)) := Blk.cell h 2
  clear h
  have hc : n < 0 ∨ (0 ≤ n ∧ (m : Int) ≤ n) := by omega
  clear hn
  rcases hc with h1 | ⟨h1, h2⟩
  all_goals
    go_enter Try.func105, Try.ntmps105
    go_wp2
    go_ret
    exact ⟨rfl, rfl⟩
set_option maxRecDepth 100000 in
theorem at_nil (w : World) (n : Int) (F : Value) :
    Calls Try.prog 105 #[.pointer none, .int .i64 n, F] w fun e w' => e = .returned (.int .i64 1) ∧ w = w' := by
  go_enter Try.func105, Try.ntmps105
  go_wp2
  go_ret
  exact ⟨rfl, rfl⟩
end
end Go.Proofs.Ytalmdccgpigppaa
namespace Go.Proofs.Ytalmdccgpigppaa
open Go.RowKit
set_option linter.unusedVariables false
set_option linter.unusedSimpArgs false
def aReadV (D : DiskV) (f m : Nat) (n : Int) : DiskV × List UInt8 × Int := if n < 0 ∨ (m : Int) ≤ n then (D, zerosL, 51) else readV D ((f : Int) + n)
def aWriteV (D : DiskV) (f m : Nat) (n : Int) (b : List UInt8) : DiskV × Int := if n < 0 ∨ (m : Int) ≤ n then (D, 51) else writeV D ((f : Int) + n) b
section
variable {w w' : World} {base ga f m : Nat} {p : DiskP} {A : Option Addr} {c : Nat} {D : DiskV}
theorem aReadV_len (h : D.Ok) (n : Int) : (aReadV D f m n).2.1.length = 128 := by
  unfold aReadV
  split
  · exact zerosL_len
  · exact readV_len h _
set_option maxRecDepth 100000 in
set_option maxHeartbeats 4000000 in
theorem read1_any {g2 g6 : Nat} (h : DiskAt w base p A c D) (ha : AreaAt w ga p.d f m) (hbox : Blk w g2 28 [.pointer (some ⟨ga, 0, none⟩)]) {Z : List UInt8} (hx : BlkB w g6 128 Z) (hZ : Z.length = 128) (hnf : ¬ foot p A g6) (n : Int) :
    Calls Try.prog 106 #[.int .i64 n, .pointer (some ⟨g2, 0, none⟩), .pointer (some ⟨g6, 0, none⟩)] w fun e w' => ∃ z, e = .returned (.int .i64 z) ∧
      (z = (readV D n).2.2 ∧ DiskAt w' base p A c (readV D n).1 ∧ BlkB w' g6 128 (readV D n).2.1 ∧ Keep (fun g => foot p A g ∨ g = g6) w w') := by
  have Hi := Lib.hid (zero_of_info zero128).2
  have hl := readV_len h.ok n
  have hrd := dread_any h n
  generalize readV D n = R at *
  obtain ⟨D', S, z⟩ := R
  simp only at hl hrd ⊢
  have c0 : w.cell? ⟨g2, 0, none⟩ = some (.pointer (some ⟨ga, 0, none⟩)) := hbox.cell 0
  have c1 : w.cell? ⟨ga, 0, none⟩ = some (.pointer (some ⟨p.d, 0, none⟩)) := Blk.cell ha 0
  have hsl : Hid ((S.map bv).length = 128) := by show _ = _; rw [List.length_map, hl]
  have hsm := Lib.hid (mem_bv (l := S))
  have hzl : Hid ((Z.map bv).length = 128) := by show _ = _; rw [List.length_map, hZ]
  have HX := Lib.hid hx
  have H := Lib.hid h
  unfold aggB at hrd
  unfold BlkB at HX ⊢
  generalize S.map bv = SV at *
  clear h ha hbox hx hl hZ
  go_enter Try.func106, Try.ntmps106
  go_wp2_with (first
    | ((go_at_call 107; (with_reducible refine (hrd).mono ?_); rintro e w1 ⟨rfl, h1, k1⟩); have hx1 := HX.out.keep k1 hnf; have H1 := Lib.hid h1; clear h1)
    | (refine wpList_store_arr rfl (x := .tmp 2) (y := .tmp 12) rfl rfl rfl hx1 Hi.out hsl.out (by rw [hzl.out]; omega) hsm.out ?_; intro w2 hb2 hg2 hs2; rw [splice_all _ _ (hzl.out.trans hsl.out.symm)] at hb2)
    | fail "no arm")
  go_ret
  exact ⟨z, rfl, rfl, H1.out.keep (F := (· = g6)) (Keep.one hg2) (fun g hg e => hnf (e ▸ hg)), hb2, (k1.mono (fun g _ hg => .inl hg)).trans (G := (· = g6)) (Keep.one hg2) (fun g _ e => .inr e)⟩
set_option maxRecDepth 100000 in
set_option maxHeartbeats 4000000 in
theorem aread_any (h : DiskAt w base p A c D) (ha : AreaAt w ga p.d f m) (hfm : f + m ≤ D.many) (n : Int) :
    Calls Try.prog 76 #[.pointer (some ⟨ga, 0, none⟩), .int .i64 n] w fun e w' => e = .returned (.tuple #[aggB (aReadV D f m n).2.1, .int .i64 (aReadV D f m n).2.2]) ∧ DiskAt w' base p A c (aReadV D f m n).1 ∧ Keep (foot p A) w w' := by
  have hz := (zero_of_info zero128).1
  have Hi := Lib.hid (zero_of_info zero128).2
  have hlz : Hid ((zerosL.map bv).length = 128) := by show _ = _; simp [zerosL_len]
  have HZm := Lib.hid (mem_bv (l := zerosL))
  have hfm4 : f + m ≤ 4096 := by have := h.ok.many1; omega
  have hl4 := Lib.hid (fun g hg => h.lt g hg)
  have H := Lib.hid h
  have HA := Lib.hid ha
  unfold aReadV
  by_cases hn : n < 0 ∨ (m : Int) ≤ n
  · rw [if_pos hn]
    simp only
    have hout := fun o1 o2 o3 => at_out (k := 106) (caps := #[.pointer (some ⟨w.heap.size, 0, none⟩), .pointer (some ⟨w.heap.size + 2, 0, none⟩)]) (((ha.below ((Below.refl _ _).alloc (Nat.le_refl _) o1)).below ((Below.refl _ _).alloc (Nat.le_refl _) o2)).below ((Below.refl _ _).alloc (Nat.le_refl _) o3)) n hn
    unfold aggB at *
    generalize zerosL.map bv = Z at *
    clear h ha hn
    go_enter Try.func76, Try.ntmps76
    go_wp2_with (first
      | (go_at_call 105; (with_reducible refine (hout _ _ _).mono ?_); rintro e w1 ⟨rfl, rfl⟩)
      | (refine wpList_load_arr rfl (x := .tmp 6) rfl rfl (t := 128) (cs := Z) (by (repeat' (first | (with_reducible assumption) | (with_reducible refine Blk.top _ (by first | rfl | omega | (simp; done) | (simp; omega)) rfl) | (with_reducible refine Blk.alloc ?_ _) | (with_reducible refine Blk.drew ?_) | (with_reducible refine Blk.drewN ?_ _) | (with_reducible refine Blk.far ?_ (by first | omega | (simp; done) | (simp; omega)) _)))) Try.underlying128 Hi.out hlz.out (xs := Z) (by rw [List.drop_zero, List.take_of_length_le (by rw [hlz.out]; omega)]) ?_)
      | (refine wpList_store_arr rfl (x := .tmp 4) (y := .tmp 12) rfl rfl rfl (t := 128) (cs := Z) (xs := Z) (by (repeat' (first | (with_reducible assumption) | (with_reducible refine Blk.top _ (by first | rfl | omega | (simp; done) | (simp; omega)) rfl) | (with_reducible refine Blk.alloc ?_ _) | (with_reducible refine Blk.drew ?_) | (with_reducible refine Blk.drewN ?_ _) | (with_reducible refine Blk.far ?_ (by first | omega | (simp; done) | (simp; omega)) _)))) Hi.out hlz.out (by rw [hlz.out]; omega) HZm.out ?_; intro w2 hb2 hg2 hs2; rw [splice_all _ _ rfl] at hb2)
      | fail "no arm")
    refine bodyPost_ret (v := .tuple #[.agg Z.toArray, .int .i64 51]) (results_arr_tmp Try.results76 _ rfl rfl hb2 Try.underlying128 Hi.out hlz.out) rfl ?_
    have hb : Below w.heap.size w w2 := below_of_only ((((Below.refl w.heap.size w).alloc (Nat.le_refl _) _).alloc (by first | omega | (simp; done) | (simp; omega)) _).alloc (by first | omega | (simp; done) | (simp; omega)) _) hg2 (by first | omega | (simp; done) | (simp; omega)) (by first | omega | (simp; done) | (simp; omega))
    exact ⟨rfl, H.out.below hb, Keep.of_below hb⟩
  · rw [if_neg hn]
    have hin := fun W (q1 : DiskAt W base p A c D) q2 g2 g6 q3 q4 q5 => at_read (w := W) (ga := ga) (d := p.d) (f := f) (m := m) (x1 := .pointer (some ⟨g2, 0, none⟩)) (x2 := .pointer (some ⟨g6, 0, none⟩)) (R := fun z w' => z = (readV D ((f : Int) + n)).2.2 ∧ DiskAt w' base p A c (readV D ((f : Int) + n)).1 ∧ BlkB w' g6 128 (readV D ((f : Int) + n)).2.1 ∧ Keep (fun g => foot p A g ∨ g = g6) W w') q2 n (by omega) (by omega) hfm4 (read1_any (g2 := g2) (g6 := g6) q1 q2 q3 (Z := zerosL) q4 zerosL_len q5 ((f : Int) + n))
    have hl := readV_len h.ok ((f : Int) + n)
    generalize readV D ((f : Int) + n) = RR at *
    obtain ⟨D', S, z⟩ := RR
    simp only at hl hin ⊢
    have hsl : Hid ((S.map bv).length = 128) := by show _ = _; rw [List.length_map, hl]
    have hsm := Lib.hid (mem_bv (l := S))
    unfold aggB BlkB at *
    generalize S.map bv = SV at *
    generalize zerosL.map bv = Z at *
    clear h ha hn hl
    go_enter Try.func76, Try.ntmps76
    go_wp2_with (first
      | ((go_at_call 105; (with_reducible refine (hin _ (((H.out.alloc _).alloc _).alloc _) (((HA.out.below ((Below.refl _ _).alloc (Nat.le_refl _) _)).below ((Below.refl _ _).alloc (Nat.le_refl _) _)).below ((Below.refl _ _).alloc (Nat.le_refl _) _)) w.heap.size (w.heap.size + 2) (by (repeat' (first | (with_reducible assumption) | (with_reducible refine Blk.top _ (by first | rfl | omega | (simp; done) | (simp; omega)) rfl) | (with_reducible refine Blk.alloc ?_ _) | (with_reducible refine Blk.drew ?_) | (with_reducible refine Blk.drewN ?_ _) | (with_reducible refine Blk.far ?_ (by first | omega | (simp; done) | (simp; omega)) _)))) (by (repeat' (first | (with_reducible assumption) | (with_reducible refine Blk.top _ (by first | rfl | omega | (simp; done) | (simp; omega)) rfl) | (with_reducible refine Blk.alloc ?_ _) | (with_reducible refine Blk.drew ?_) | (with_reducible refine Blk.drewN ?_ _) | (with_reducible refine Blk.far ?_ (by first | omega | (simp; done) | (simp; omega)) _)))) (fun e => by have := hl4.out _ e; omega)).mono ?_); rintro e w1 ⟨z9, rfl, hz9, h1, hx1, k1⟩); subst hz9; have hr1 := Blk.keep (g := w.heap.size + 1) (t := 128) (cs := Z) (by (repeat' (first | (with_reducible assumption) | (with_reducible refine Blk.top _ (by first | rfl | omega | (simp; done) | (simp; omega)) rfl) | (with_reducible refine Blk.alloc ?_ _) | (with_reducible refine Blk.drew ?_) | (with_reducible refine Blk.drewN ?_ _) | (with_reducible refine Blk.far ?_ (by first | omega | (simp; done) | (simp; omega)) _)))) k1 (fun e => by rcases e with e | e; have := hl4.out _ e; omega; omega); have H1 := Lib.hid h1; clear h1)
      | (refine wpList_load_arr rfl (x := .tmp 6) rfl rfl hx1 Try.underlying128 Hi.out hsl.out (xs := SV) (by rw [List.drop_zero, List.take_of_length_le (by rw [hsl.out]; omega)]) ?_)
      | (refine wpList_store_arr rfl (x := .tmp 4) (y := .tmp 12) rfl rfl rfl hr1 Hi.out hsl.out (by rw [hlz.out]; omega) hsm.out ?_; intro w2 hb2 hg2 hs2; rw [splice_all _ _ (hlz.out.trans hsl.out.symm)] at hb2)
      | fail "no arm")
    refine bodyPost_ret (v := .tuple #[.agg SV.toArray, .int .i64 z9]) (results_arr_tmp Try.results76 _ rfl rfl hb2 Try.underlying128 Hi.out hsl.out) rfl ?_
    refine ⟨rfl, H1.out.keep (F := (· = w.heap.size + 1)) (Keep.one hg2) (fun g hg e => by have := hl4.out _ hg; omega), ?_⟩
    have k2 : Keep (fun g => foot p A g ∨ g = w.heap.size + 2 ∨ g = w.heap.size + 1) w w2 := ((((((Keep.refl _ w).alloc _).alloc _).alloc _).trans k1 (fun g _ e => by rcases e with e | e; exact .inl e; exact .inr (.inl e))).trans (G := (· = w.heap.size + 1)) (Keep.one hg2) (fun g _ e => .inr (.inr e)))
    exact k2.mono (fun g hg e => by rcases e with e | e | e; exact e; omega; omega)
set_option maxRecDepth 100000 in
set_option maxHeartbeats 4000000 in
theorem write1_any {g3 g5 : Nat} (h : DiskAt w base p A c D) (ha : AreaAt w ga p.d f m) (hbox : Blk w g3 28 [.pointer (some ⟨ga, 0, none⟩)]) {S : List UInt8} (hx : BlkB w g5 128 S) (hS : S.length = 128) (hnf : ¬ foot p A g5) (n : Int) (hw : D.waits.length < 1000000) (hbase : base ≤ w.heap.size) :
    Calls Try.prog 109 #[.int .i64 n, .pointer (some ⟨g3, 0, none⟩), .pointer (some ⟨g5, 0, none⟩)] w fun e w' => ∃ z, e = .returned (.int .i64 z) ∧ (z = (writeV D n S).2 ∧ DiskNext w base p A (writeV D n S).1 w') := by
  have Hi := Lib.hid (zero_of_info zero128).2
  have hwr := fun w' (hb : Below w.heap.size w w') => write_any (h.below hb) n S hS hw (by have := hb.size; omega)
  have c0 : w.cell? ⟨g3, 0, none⟩ = some (.pointer (some ⟨ga, 0, none⟩)) := hbox.cell 0
  have c1 : w.cell? ⟨ga, 0, none⟩ = some (.pointer (some ⟨p.d, 0, none⟩)) := Blk.cell ha 0
  have hsl : Hid ((S.map bv).length = 128) := by show _ = _; rw [List.length_map, hS]
  have hxr := Blk.range (o := 0) (n := 128) (xs := S.map bv) hx (by rw [List.drop_zero, List.take_of_length_le (by rw [hsl.out]; omega)])
  generalize (writeV D n S).1 = D' at *
  generalize (writeV D n S).2 = z at *
  unfold aggB at hwr
  unfold BlkB at hx
  generalize S.map bv = SV at *
  have hnx : ∀ w1 w2, Below w.heap.size w w1 → DiskNext w1 base p A D' w2 → DiskNext w base p A D' w2 := fun w1 w2 hb ⟨A', c', h1, k, n⟩ => ⟨A', c', h1, (Keep.of_below hb).trans k (fun _ _ e => e), fun g e => by rcases n g e with q | q; exact .inl q; exact .inr (by have := hb.size; omega)⟩
  have HX := Lib.hid hx
  have HB := Lib.hid hbox
  have HA := Lib.hid ha
  have H := Lib.hid h
  clear h ha hbox hx hS
  go_enter Try.func109, Try.ntmps109
  go_wp2
  refine wp_region_held_drew (S := fun w' => w'.cell? ⟨g3, 0, none⟩ = some (.pointer (some ⟨ga, 0, none⟩)) ∧ w'.cell? ⟨ga, 0, none⟩ = some (.pointer (some ⟨p.d, 0, none⟩)) ∧ w'.rangeAt g5 0 SV) (by kernel_rfl) ⟨c0, c1, hxr⟩ (fun hHeld => ?_)
  refine wpAnyH_take (i := 0) (v := ?_) rfl (by decide +kernel) (by decide +kernel) (by decide +kernel) (fun _ _ _ h => h) (Or.inl ⟨by rfl, ?_⟩) (by assumption) ?_
  rotate_left 1
  · (intro w hSw; (try dsimp only at hSw); obtain ⟨s1, s2, s3⟩ := hSw; go_simp; rfl)
  try simp only [List.getElem_toArray, List.getElem_cons_zero, List.getElem_cons_succ, Act.put, List.setIfInBounds_toArray, List.set_cons_zero, List.set_cons_succ]
  refine wpAnyH_take (i := 1) (v := ?_) rfl (by decide +kernel) (by decide +kernel) (by decide +kernel) (fun _ _ _ h => h) (Or.inl ⟨by rfl, ?_⟩) (by assumption) ?_
  rotate_left 1
  · (intro w hSw; (try dsimp only at hSw); go_simp; try (with_reducible rfl))
  try simp only [List.getElem_toArray, List.getElem_cons_zero, List.getElem_cons_succ, Act.put, List.setIfInBounds_toArray, List.set_cons_zero, List.set_cons_succ]
  refine wpAnyH_take (i := 2) (v := ?_) rfl (by decide +kernel) (by decide +kernel) (by decide +kernel) (fun _ _ _ h => h) (Or.inl ⟨by rfl, ?_⟩) (by assumption) ?_
  rotate_left 1
  · (intro w hSw; (try dsimp only at hSw); go_simp; try (with_reducible rfl))
  try simp only [List.getElem_toArray, List.getElem_cons_zero, List.getElem_cons_succ, Act.put, List.setIfInBounds_toArray, List.set_cons_zero, List.set_cons_succ]
  refine wpAnyH_take (i := 3) (v := ?_) rfl (by decide +kernel) (by decide +kernel) (by decide +kernel) (fun _ _ _ h => h) (Or.inl ⟨by rfl, ?_⟩) (by assumption) ?_
  rotate_left 1
  · (intro w hSw; (try dsimp only at hSw); obtain ⟨s1, s2, s3⟩ := hSw; go_simp; rfl)
  try simp only [List.getElem_toArray, List.getElem_cons_zero, List.getElem_cons_succ, Act.put, List.setIfInBounds_toArray, List.set_cons_zero, List.set_cons_succ]
  refine wpAnyH_take (i := 4) (v := ?_) rfl (by decide +kernel) (by decide +kernel) (by decide +kernel) (fun _ _ _ h => h) (Or.inl ⟨by rfl, ?_⟩) (by assumption) ?_
  rotate_left 1
  · (intro w hSw; (try dsimp only at hSw); go_simp; try (with_reducible rfl))
  try simp only [List.getElem_toArray, List.getElem_cons_zero, List.getElem_cons_succ, Act.put, List.setIfInBounds_toArray, List.set_cons_zero, List.set_cons_succ]
  refine wpAnyH_take (i := 5) (v := _) rfl (by decide +kernel) (by decide +kernel) (by decide +kernel) (fun _ _ _ h => h) (yieldsIf_load_mid (by rfl) _ _ rfl _ _ rfl SV _ (fun _ h => h.2.2) Try.underlying128 rfl (by rw [hsl.out]; exact Hi.out)) (by assumption) ?_
  try simp only [List.getElem_toArray, List.getElem_cons_zero, List.getElem_cons_succ, Act.put, List.setIfInBounds_toArray, List.set_cons_zero, List.set_cons_succ]
  refine wpAnyH_ready (rs := [6]) (by decide +kernel) (by simp) ?_
  refine AllReadyH.cons rfl (fun K hK => ?_) AllReadyH.nil
  go_simp
  (go_at_call 110; (with_reducible refine (hwr _ (by (repeat' (first | (with_reducible exact Below.refl _ _) | (with_reducible assumption) | (with_reducible refine Below.drew ?_) | (with_reducible refine below_drewN ?_ _) | (with_reducible refine Below.alloc ?_ ?_ _) | (with_reducible refine Below.setCell ?_ ?_ _) | omega | (simp; done) | (simp; omega))))).mono ?_); rintro e w1 ⟨rfl, hN⟩)
  have hN2 := hnx _ _ (by (repeat' (first | (with_reducible exact Below.refl _ _) | (with_reducible assumption) | (with_reducible refine Below.drew ?_) | (with_reducible refine below_drewN ?_ _) | (with_reducible refine Below.alloc ?_ ?_ _) | (with_reducible refine Below.setCell ?_ ?_ _) | omega | (simp; done) | (simp; omega)))) hN
  have kk := (show Keep (foot p A) w w1 from (by obtain ⟨_, _, _, k, _⟩ := hN2; exact k))
  have HB1 := HB.out.keep kk (fun e => by rcases H.out.foot_ty HB.out e with q | q | q | q | q <;> exact absurd q (by decide))
  have HA1 := HA.out.spares H.out kk
  have HX1 := HX.out.keep kk hnf
  have d0 : w1.cell? ⟨g3, 0, none⟩ = some (.pointer (some ⟨ga, 0, none⟩)) := HB1.cell 0
  have d1 : w1.cell? ⟨ga, 0, none⟩ = some (.pointer (some ⟨p.d, 0, none⟩)) := Blk.cell HA1 0
  have d2 := Blk.range (o := 0) (n := 128) (xs := SV) HX1 (by rw [List.drop_zero, List.take_of_length_le (by rw [hsl.out]; omega)])
  have HN2 := Lib.hid hN2
  clear hN2 hN HB1 HA1 HX1
  refine hK.out _ _ (⟨d0, d1, d2⟩) (fun hHeld => ?_)
  clear hK K
  try simp only [List.getElem_toArray, List.getElem_cons_zero, List.getElem_cons_succ, Act.put, List.setIfInBounds_toArray, List.set_cons_zero, List.set_cons_succ]
  refine wpAnyH_take (i := 7) (v := ?_) rfl (by decide +kernel) (by decide +kernel) (by decide +kernel) (fun _ _ _ h => h) (Or.inl ⟨by rfl, ?_⟩) (by assumption) ?_
  rotate_left 1
  · (intro w hSw; (try dsimp only at hSw); go_simp; try (with_reducible rfl))
  try simp only [List.getElem_toArray, List.getElem_cons_zero, List.getElem_cons_succ, Act.put, List.setIfInBounds_toArray, List.set_cons_zero, List.set_cons_succ]
  refine wpAnyH_done (by decide +kernel) ?_ _
  go_wp2
  go_ret
  exact ⟨z, rfl, rfl, hnx _ _ (Below.refl _ _) HN2.out⟩
set_option maxRecDepth 100000 in
set_option maxHeartbeats 4000000 in
theorem awrite_any (h : DiskAt w base p A c D) (ha : AreaAt w ga p.d f m) (hfm : f + m ≤ D.many) (n : Int) (S : List UInt8) (hS : S.length = 128) (hw : D.waits.length < 1000000) (hbase : base ≤ w.heap.size) :
    Calls Try.prog 83 #[.pointer (some ⟨ga, 0, none⟩), .int .i64 n, aggB S] w fun e w' => e = .returned (.int .i64 (aWriteV D f m n S).2) ∧ DiskNext w base p A (aWriteV D f m n S).1 w' := by
  have hfm4 : f + m ≤ 4096 := by have := h.ok.many1; omega
  have Hi := Lib.hid (zero_of_info zero128).2
  have hl4 := Lib.hid (fun g hg => h.lt g hg)
  have hsl : Hid ((S.map bv).length = 128) := by show _ = _; rw [List.length_map, hS]
  have hnx : ∀ D' w1 w2, Below w.heap.size w w1 → DiskNext w1 base p A D' w2 → DiskNext w base p A D' w2 := fun D' w1 w2 hb ⟨A', c', h1, k, n⟩ => ⟨A', c', h1, (Keep.of_below hb).trans k (fun _ _ e => e), fun g e => by rcases n g e with q | q; exact .inl q; exact .inr (by have := hb.size; omega)⟩
  have H := Lib.hid h
  have HA := Lib.hid ha
  unfold aWriteV
  by_cases hn : n < 0 ∨ (m : Int) ≤ n
  · rw [if_pos hn]
    simp only
    have hout := fun o1 o2 => at_out (k := 109) (caps := #[.pointer (some ⟨w.heap.size, 0, none⟩), .pointer (some ⟨w.heap.size + 1, 0, none⟩)]) ((ha.below ((Below.refl _ _).alloc (Nat.le_refl _) o1)).below ((Below.refl _ _).alloc (Nat.le_refl _) o2)) n hn
    unfold aggB at *
    generalize S.map bv = SV at *
    clear h ha hn
    go_enter Try.func83, Try.ntmps83
    go_wp2_with (first
      | (go_at_call 105; (with_reducible refine (hout _ _).mono ?_); rintro e w1 ⟨rfl, rfl⟩)
      | fail "no arm")
    go_ret
    exact ⟨rfl, hnx _ _ _ (by (repeat' (first | (with_reducible exact Below.refl _ _) | (with_reducible assumption) | (with_reducible refine Below.drew ?_) | (with_reducible refine below_drewN ?_ _) | (with_reducible refine Below.alloc ?_ ?_ _) | (with_reducible refine Below.setCell ?_ ?_ _) | omega | (simp; done) | (simp; omega)))) (DiskNext.same ((H.out.alloc _).alloc _) (Below.refl _ _))⟩
  · rw [if_neg hn]
    have hin := fun W (q1 : DiskAt W base p A c D) q2 g2 g6 q3 q4 q5 q6 => at_write (w := W) (ga := ga) (d := p.d) (f := f) (m := m) (x1 := .pointer (some ⟨g2, 0, none⟩)) (x2 := .pointer (some ⟨g6, 0, none⟩)) (R := fun z w' => z = (writeV D ((f : Int) + n) S).2 ∧ DiskNext W base p A (writeV D ((f : Int) + n) S).1 w') q2 n (by omega) (by omega) hfm4 (write1_any (g3 := g2) (g5 := g6) q1 q2 q3 (S := S) q4 hS q5 ((f : Int) + n) hw q6)
    generalize writeV D ((f : Int) + n) S = RR at *
    obtain ⟨D', z⟩ := RR
    simp only at hin ⊢
    unfold aggB BlkB at *
    generalize S.map bv = SV at *
    clear h ha hn
    go_enter Try.func83, Try.ntmps83
    go_wp2_with (first
      | ((go_at_call 105; (with_reducible refine (hin _ ((H.out.alloc _).alloc _) ((HA.out.below ((Below.refl _ _).alloc (Nat.le_refl _) _)).below ((Below.refl _ _).alloc (Nat.le_refl _) _)) w.heap.size (w.heap.size + 1) (by (repeat' (first | (with_reducible assumption) | (with_reducible refine Blk.top _ (by first | rfl | omega | (simp; done) | (simp; omega)) rfl) | (with_reducible refine Blk.alloc ?_ _) | (with_reducible refine Blk.drew ?_) | (with_reducible refine Blk.drewN ?_ _) | (with_reducible refine Blk.far ?_ (by first | omega | (simp; done) | (simp; omega)) _)))) (by (repeat' (first | (with_reducible assumption) | (with_reducible refine Blk.top _ (by first | rfl | omega | (simp; done) | (simp; omega)) rfl) | (with_reducible refine Blk.alloc ?_ _) | (with_reducible refine Blk.drew ?_) | (with_reducible refine Blk.drewN ?_ _) | (with_reducible refine Blk.far ?_ (by first | omega | (simp; done) | (simp; omega)) _)))) (fun e => by have := hl4.out _ e; omega) (by first | omega | (simp; done) | (simp; omega))).mono ?_); rintro e w1 ⟨z9, rfl, hz9, hN⟩))
      | fail "no arm")
    go_ret
    subst hz9
    exact ⟨rfl, hnx _ _ _ (by (repeat' (first | (with_reducible exact Below.refl _ _) | (with_reducible assumption) | (with_reducible refine Below.drew ?_) | (with_reducible refine below_drewN ?_ _) | (with_reducible refine Below.alloc ?_ ?_ _) | (with_reducible refine Below.setCell ?_ ?_ _) | omega | (simp; done) | (simp; omega)))) hN⟩
end
end Go.Proofs.Ytalmdccgpigppaa
