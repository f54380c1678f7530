/- Parts: DiskJ, DiskI, DiskL, AreaA. -/
import Derived.Test.YtalmdccgpigppaaPr18
import Derived.Test.YtalmdccgpigppaaPr23
import Derived.Test.YtalmdccgpigppaaPr22
import Derived.Test.YtalmdccgpigppaaPr01
namespace Go.Proofs.Ytalmdccgpigppaa
open Go.RowKit
set_option linter.unusedVariables false
set_option linter.unusedSimpArgs false
theorem DiskAt.belowK {w w' : World} {base : Nat} {p : DiskP} {A : Option Addr} {c : Nat} {D : DiskV} (h : DiskAt w base p A c D) (k : Keep (foot p A) w w') (hb : base ≤ w.heap.size) : Below base w w' := k.below h.bs hb
end Go.Proofs.Ytalmdccgpigppaa
namespace Go.Proofs.Ytalmdccgpigppaa
open Go.RowKit
set_option linter.unusedVariables false
set_option linter.unusedSimpArgs false
section
variable {w : World} {base : Nat} {p : DiskP} {A : Option Addr} {c : Nat} {D : DiskV}
theorem run_slice_all {P : Program} {t e : TypeId} {n : Nat} (hu : P.underlying t = some (.array n e)) (hs : (P.info? e).map (·.size) = some 1) (g o : Nat) (W : World) :
    (Instr.sliceAt t (.pointer (some ⟨g, o, none⟩)) none none none).run P W = .ok (.slice (some ⟨g, o, none⟩) n n) W := by
  have e1 : P.arrayLen t = n := by unfold Program.arrayLen; rw [hu]
  have e2 : P.elem t = e := by unfold Program.elem; rw [hu]
  cases hq : P.info? e with
  | none => simp [hq] at hs
  | some i =>
    have hsz : i.size = 1 := by simpa [hq] using hs
    rw [run_sliceAt_array_all W t ⟨g, o, none⟩ (by rw [e1, e2]; exact hu), e2, e1]
    have hso : (sizeOf e).run P W = .ok 1 W := by simp [sizeOf, typeInfo, hq, hsz]
    have hadd : (⟨g, o, none⟩ : Addr).add 0 = ⟨g, o, none⟩ := by simp [Addr.add]
    rw [hso]
    simp [slicedAt, hadd]
end
end Go.Proofs.Ytalmdccgpigppaa
namespace Go.Proofs.Ytalmdccgpigppaa
open Go.RowKit
set_option linter.unusedVariables false
set_option linter.unusedSimpArgs false
section
variable {w w' : World} {base : Nat} {p : DiskP} {A : Option Addr} {c : Nat} {D : DiskV}
theorem DiskAt.foot_ty (h : DiskAt w base p A c D) {g : Nat} {t : TypeId} {cs : List Value} (hb : Blk w g t cs) (hg : foot p A g) : t = 119 ∨ t = 128 ∨ t = 4 ∨ t = 217 ∨ t = 130 := by
  have ty : ∀ {t' : TypeId} {cs' : List Value}, Blk w g t' cs' → t = t' := fun h' => by
    unfold Blk at hb h'
    rw [hb] at h'
    injection h' with h'
    injection h' with _ ht
  rcases hg with rfl | rfl | rfl | rfl | rfl | rfl | hg
  · exact .inl (ty h.st)
  · exact .inr (.inl (ty h.bk))
  · exact .inr (.inl (ty h.bn))
  · exact .inr (.inr (.inl (ty h.bi)))
  · exact .inr (.inr (.inl (ty h.bm)))
  · exact .inr (.inr (.inr (.inl (ty h.mt.2))))
  · rcases h.wa.2 with ⟨hv, _⟩ | ⟨g', cap, cur, hv, _, hh, _⟩
    · injection hv with hv; subst hv; cases hg
    · injection hv with hv
      subst hv
      simp only [Option.map_some, Option.some.injEq] at hg
      subst hg
      exact .inr (.inr (.inr (.inr (ty (cs' := cur.toList) (by unfold Blk; rw [hh])))))
/-- A block of another kind is as it was behind what is done to a disk. -/
theorem DiskAt.spares (h : DiskAt w base p A c D) {g : Nat} {t : TypeId} {cs : List Value} (hb : Blk w g t cs) (k : Keep (foot p A) w w') (h1 : t ≠ 119) (h2 : t ≠ 128) (h3 : t ≠ 4) (h4 : t ≠ 217) (h5 : t ≠ 130) : Blk w' g t cs :=
  hb.keep k (fun e => by rcases h.foot_ty hb e with q | q | q | q | q; exact h1 q; exact h2 q; exact h3 q; exact h4 q; exact h5 q)
end
/-- A disk, wherever its pieces lie. -/
def DiskS (w : World) (base : Nat) (p : DiskP) (D : DiskV) : Prop := ∃ A c, DiskAt w base p A c D
theorem DiskNext.s {w w' : World} {base : Nat} {p : DiskP} {A : Option Addr} {D : DiskV} (h : DiskNext w base p A D w') : DiskS w' base p D := by
  obtain ⟨A', c', h, _⟩ := h; exact ⟨A', c', h⟩
theorem DiskAt.rebase {w : World} {base base' : Nat} {p : DiskP} {A : Option Addr} {c : Nat} {D : DiskV} (h : DiskAt w base p A c D) (hb : base' ≤ base) : DiskAt w base' p A c D :=
  ⟨h.ok, h.st, h.bk, h.bn, h.bi, h.bm, h.mt, (h.waS.rebase hb).2, h.ne1, h.ne2, fun g hg => Nat.le_trans hb (h.bs g hg)⟩
theorem DiskAt.s {w : World} {base : Nat} {p : DiskP} {A : Option Addr} {c : Nat} {D : DiskV} (h : DiskAt w base p A c D) : DiskS w base p D := ⟨A, c, h⟩
theorem DiskS.below {w w' : World} {base : Nat} {p : DiskP} {D : DiskV} (h : DiskS w base p D) (hb : Below w.heap.size w w') : DiskS w' base p D := by
  obtain ⟨A, c, h⟩ := h; exact ⟨A, c, h.below hb⟩
theorem DiskS.rebase {w : World} {base base' : Nat} {p : DiskP} {D : DiskV} (h : DiskS w base p D) (hb : base' ≤ base) : DiskS w base' p D := by
  obtain ⟨A, c, h⟩ := h; exact ⟨A, c, h.rebase hb⟩
end Go.Proofs.Ytalmdccgpigppaa
namespace Go.Proofs.Ytalmdccgpigppaa
open Go.RowKit
set_option linter.unusedVariables false
set_option linter.unusedSimpArgs false
theorem DosRd.get {w : World} {A : Option Addr} {n k : Nat} {l : List DoV} {x : DoV} (h : DosRd w A n l) (hx : l[k]? = some x) :
    ∃ b o B m d, A = some ⟨b, o, none⟩ ∧ RB w B m x.b ∧ m ≤ d ∧ d ≤ maxLen ∧ (-9223372036854775808 ≤ x.n ∧ x.n ≤ 9223372036854775807) ∧
      ∀ (w' : World) (B0 : Nat), Below B0 w w' → w.heap.size ≤ B0 → b < w'.heap.size ∧ w'.cell? ⟨b, o + k * 3, none⟩ = some (.int .i64 x.kind) ∧ w'.cell? ⟨b, o + k * 3 + 1, none⟩ = some (.int .i64 x.n) ∧ w'.cell? ⟨b, o + k * 3 + 2, none⟩ = some (.slice B m d) := by
  obtain ⟨b, o, B, m, c, hA, hlt, c0, c1, c2, hr, hm, hc, _, hn⟩ := h.2 k x hx
  refine ⟨b, o, B, m, c, hA, hr, hm, hc, hn, fun w' B0 hb hB => ?_⟩
  have hs := hb.size
  exact ⟨by omega, (hb.cell (p := ⟨b, o + k * 3 + 0, none⟩) (by show b < B0; omega)).trans c0, (hb.cell (p := ⟨b, o + k * 3 + 1, none⟩) (by show b < B0; omega)).trans c1, (hb.cell (p := ⟨b, o + k * 3 + 2, none⟩) (by show b < B0; omega)).trans c2⟩
def TwoAt (w : World) (base : Nat) (p q : DiskP) (D E : DiskV) : Prop :=
  ∃ A a B b, DiskAt w base p A a D ∧ DiskAt w base q B b E ∧ ∀ g, foot p A g → ¬ foot q B g
section
variable {w w' : World} {base : Nat} {p q : DiskP} {A B : Option Addr} {a b : Nat} {D D' E E' : DiskV}
theorem DiskNext.far (h : DiskNext w base p A D' w') : ∃ A' c', DiskAt w' base p A' c' D' ∧ ∀ g, foot p A' g → foot p A g ∨ w.heap.size ≤ g := by
  obtain ⟨A', c', h1, k, n⟩ := h
  refine ⟨A', c', h1, fun g hg => ?_⟩
  rcases hg with e | e | e | e | e | e | e
  · exact .inl (.inl e)
  · exact .inl (.inr (.inl e))
  · exact .inl (.inr (.inr (.inl e)))
  · exact .inl (.inr (.inr (.inr (.inl e))))
  · exact .inl (.inr (.inr (.inr (.inr (.inl e)))))
  · exact .inl (.inr (.inr (.inr (.inr (.inr (.inl e))))))
  · rcases n g e with h | h
    · exact .inl (.inr (.inr (.inr (.inr (.inr (.inr h))))))
    · exact .inr h
theorem TwoAt.below (h : TwoAt w base p q D E) (hb : Below w.heap.size w w') : TwoAt w' base p q D E := by
  obtain ⟨A, a, B, b, h1, h2, h3⟩ := h
  exact ⟨A, a, B, b, h1.below hb, h2.below hb, h3⟩
end
end Go.Proofs.Ytalmdccgpigppaa
namespace Go.Proofs.Ytalmdccgpigppaa
open Go.RowKit
set_option linter.unusedVariables false
set_option linter.unusedSimpArgs false

def AreaAt (w : World) (ga d f m : Nat) : Prop := Blk w ga 169 [.pointer (some ⟨d, 0, none⟩), .int .i64 (f : Int), .int .i64 (m : Int)]
/-- What a sector of a disk has; the error. -/
def readV (D : DiskV) (n : Int) : DiskV × List UInt8 × Int := if mayV D n ≠ 0 then (D, zerosL, mayV D n) else (readV' D, secOf D.now n, 0)
theorem readV_len {D : DiskV} (h : D.Ok) (n : Int) : (readV D n).2.1.length = 128 := by
  unfold readV
  split
  · exact zerosL_len
  · rename_i hm
    obtain ⟨_, h0, h1⟩ := mayV_zero (D := D) (n := n) (by omega)
    exact secOf_len h.now h0 h1
section
variable {w w' : World} {base ga f m : Nat} {p : DiskP} {A : Option Addr} {c : Nat} {D : DiskV}
theorem AreaAt.below {d : Nat} (h : AreaAt w ga d f m) (hb : Below w.heap.size w w') : AreaAt w' ga d f m := Blk.below h hb h.lt
theorem AreaAt.keep {d : Nat} {F : Nat → Prop} (h : AreaAt w ga d f m) (k : Keep F w w') (hF : ¬ F ga) : AreaAt w' ga d f m := Blk.keep h k hF
theorem AreaAt.notFoot {d : Nat} (h : AreaAt w ga d f m) (hd : DiskAt w base p A c D) : ¬ foot p A ga := fun e => by
  rcases hd.foot_ty h e with q | q | q | q | q <;> exact absurd q (by decide)
theorem AreaAt.spares {d : Nat} (h : AreaAt w ga d f m) (hd : DiskAt w base p A c D) (k : Keep (foot p A) w w') : AreaAt w' ga d f m := h.keep k (h.notFoot hd)
theorem dread_any (h : DiskAt w base p A c D) (n : Int) : Calls Try.prog 107 #[.pointer (some ⟨p.d, 0, none⟩), .int .i64 n] w fun e w' =>
    e = .returned (.tuple #[aggB (readV D n).2.1, .int .i64 (readV D n).2.2]) ∧ DiskAt w' base p A c (readV D n).1 ∧ Keep (foot p A) w w' := by
  unfold readV
  by_cases hn : mayV D n = 0
  · rw [if_neg (by omega)]; exact read_yes h n hn
  · rw [if_pos hn]; exact (read_no h n hn).mono fun e w' ⟨h1, h2⟩ => ⟨h1, h.below h2, Keep.of_below h2⟩
theorem many_any {d : Nat} (h : AreaAt w ga d f m) : Calls Try.prog 47 #[.pointer (some ⟨ga, 0, none⟩)] w fun e w' => e = .returned (.int .i64 (m : Nat)) ∧ w = w' := by
  have c2 : w.cell? ⟨ga, 2, none⟩ = some (.int .i64 (m : Int)) := Blk.cell h 2
  clear h
  go_enter Try.func47, Try.ntmps47
  go_wp2
  go_ret
  exact ⟨rfl, rfl⟩
/-! 'at' within the area: what the closure does at the disk's sector. -/
set_option maxRecDepth 100000 in
theorem at_read {d : Nat} {x1 x2 : Value} {R : Int → World → Prop} (h : AreaAt w ga d f m) (n : Int) (h0 : 0 ≤ n) (h1 : n < m) (hfm : f + m ≤ 4096)
    (hF : Calls Try.prog 106 #[.int .i64 ((f : Int) + n), x1, x2] w (fun e w' => ∃ z, e = .returned (.int .i64 z) ∧ R z w')) :
    Calls Try.prog 105 #[.pointer (some ⟨ga, 0, none⟩), .int .i64 n, .func (.func 106) #[] #[x1, x2]] w fun e w' => ∃ z, e = .returned (.int .i64 z) ∧ R z w' := by
  have c0 : w.cell? ⟨ga, 0, none⟩ = some (.pointer (some ⟨d, 0, none⟩)) := Blk.cell h 0
  have c1 : w.cell? ⟨ga, 1, none⟩ = some (.int .i64 (f : Int)) := Blk.cell h 1
  have c2 : w.cell? ⟨ga, 2, none⟩ = some (.int .i64 (m : Int)) := Blk.cell h 2
  clear h
  go_enter Try.func105, Try.ntmps105
  go_wp2_with (first
    | ((go_at_call 106; (with_reducible refine (hF).mono ?_); rintro e w2 ⟨z, rfl, hR⟩))
    | fail "no arm")
  go_ret
  exact ⟨z, rfl, hR⟩
set_option maxRecDepth 100000 in
theorem at_write {d : Nat} {x1 x2 : Value} {R : Int → World → Prop} (h : AreaAt w ga d f m) (n : Int) (h0 : 0 ≤ n) (h1 : n < m) (hfm : f + m ≤ 4096)
    (hF : Calls Try.prog 109 #[.int .i64 ((f : Int) + n), x1, x2] w (fun e w' => ∃ z, e = .returned (.int .i64 z) ∧ R z w')) :
    Calls Try.prog 105 #[.pointer (some ⟨ga, 0, none⟩), .int .i64 n, .func (.func 109) #[] #[x1, x2]] w fun e w' => ∃ z, e = .returned (.int .i64 z) ∧ R z w' := by
  have c0 : w.cell? ⟨ga, 0, none⟩ = some (.pointer (some ⟨d, 0, none⟩)) := Blk.cell h 0
  have c1 : w.cell? ⟨ga, 1, none⟩ = some (.int .i64 (f : Int)) := Blk.cell h 1
  have c2 : w.cell? ⟨ga, 2, none⟩ = some (.int .i64 (m : Int)) := Blk.cell h 2
  clear h
  go_enter Try.func105, Try.ntmps105
  go_wp2_with (first
    | ((go_at_call 109; (with_reducible refine (hF).mono ?_); rintro e w2 ⟨z, rfl, hR⟩))
    | fail "no arm")
  go_ret
  exact ⟨z, rfl, hR⟩
set_option maxRecDepth 100000 in
theorem at_out {d k : Nat} {caps : Array Value} (h : AreaAt w ga d f m) (n : Int) (hn : n < 0 ∨ (m : Int) ≤ n) :
    Calls Try.prog 105 #[.pointer (some ⟨ga, 0, none⟩), .int .i64 n, .func (.func k) #[] caps] w fun e w' => e = .returned (.int .i64 51) ∧ w = w' := by
  have c0 : w.cell? ⟨ga, 0, none⟩ = some (.pointer (some ⟨d, 0, none⟩)) := Blk.cell h 0
  have c2 : w.cell? ⟨ga, 2, none⟩ = some (.int .i64 (m : Int)) := Blk.cell h 2
  clear h
  have hc : n < 0 ∨ (0 ≤ n ∧ (m : Int) ≤ n) := by omega
  clear hn
  rcases hc with h1 | ⟨h1, h2⟩
  all_goals
    go_enter Try.func105, Try.ntmps105
    go_wp2
    go_ret
    exact ⟨rfl, rfl⟩
end
end Go.Proofs.Ytalmdccgpigppaa
