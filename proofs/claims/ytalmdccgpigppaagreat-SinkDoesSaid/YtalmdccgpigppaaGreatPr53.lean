/- Parts: FeedA, FeedB, FeedC, LsI, Same22, Do35, FeedD, SinkD. -/
import Derived.Test.YtalmdccgpigppaaGreatPr45
import Derived.Deep.DeepCutAuto
import Derived.Deep.CutBlock
import Derived.ArgAppend
import Derived.Test.YtalmdccgpigppaaGreatPr49
import Derived.Deep.RegionHeld3
import Derived.Deep.QuietTactic
import Derived.BigQuiet
import Derived.Test.YtalmdccgpigppaaGreatPr48
import Derived.Test.YtalmdccgpigppaaGreatPr52
import Derived.Test.YtalmdccgpigppaaGreatPr47
namespace Go.Proofs.YtalmdccgpigppaaGreat
open Go.RowKit
set_option linter.unusedVariables false
set_option linter.unusedSimpArgs false
section
variable {w w' : World} {base g ga f m next : Nat} {kind : Int} {ts : List Int} {p : DiskP} {D : DiskV}
end
end Go.Proofs.YtalmdccgpigppaaGreat
namespace Go.Proofs.YtalmdccgpigppaaGreat
open Go.RowKit
set_option linter.unusedVariables false
set_option linter.unusedSimpArgs false
section
variable {w w' : World} {base ga f m : Nat} {ts : List Int} {p : DiskP} {D : DiskV}
end
end Go.Proofs.YtalmdccgpigppaaGreat
namespace Go.Proofs.YtalmdccgpigppaaGreat
open Go.RowKit
set_option linter.unusedVariables false
set_option linter.unusedSimpArgs false
section
variable {w w' : World} {base g ga f m next : Nat} {kind : Int} {ts l : List Int} {p : DiskP} {D : DiskV}
end
end Go.Proofs.YtalmdccgpigppaaGreat
namespace Go.Proofs.YtalmdccgpigppaaGreat
open Go.RowKit
set_option linter.unusedVariables false
set_option linter.unusedSimpArgs false
/-- A list of rows that reads as one. -/
def RowsRd (w : World) (B : Option Addr) (N : Nat) (Ls : List (List Int)) : Prop := Ls.length = N ∧ ∃ hs : List SlV, Rd slV w B N hs ∧ ∀ (k : Nat) (h : SlV) (L : List Int), hs[k]? = some h → Ls[k]? = some L → RI w h.a h.n L ∧ h.n ≤ maxLen
/-- A list of rows that may be appended to: its own, or one without room. -/
def RowsIn (w : World) (base lim : Nat) (B : Option Addr) (N c : Nat) (Ls : List (List Int)) : Prop :=
  Ls.length = N ∧ N ≤ c ∧ c ≤ maxLen ∧ ∃ hs : List SlV, (∀ (k : Nat) (h : SlV) (L : List Int), hs[k]? = some h → Ls[k]? = some L → IntsAt w base h.a h.n L) ∧
    (Ow slV w lim 23 B N c hs ∨ (c = N ∧ Rd slV w B N hs ∧ (0 < N → Rests w base 23 B)))
section
variable {M : List TypeId} {w w' : World} {base lim N c : Nat} {B : Option Addr} {p : DiskP} {D : DiskV} {Ls : List (List Int)}
theorem RowsIn.nil (w : World) (base lim : Nat) : RowsIn w base lim none 0 0 [] := ⟨rfl, Nat.le_refl _, by unfold maxLen; omega, [], fun k h L h1 => by simp at h1, .inl (Ow.nil _ _ _ _)⟩
theorem RowsIn.len (H : RowsIn w base lim B N c Ls) : Ls.length = N ∧ N ≤ c ∧ c ≤ maxLen := ⟨H.1, H.2.1, H.2.2.1⟩
theorem RowsIn.rd (H : RowsIn w base lim B N c Ls) : RowsRd w B N Ls := by
  obtain ⟨a1, a2, a3, hs, hi, ho⟩ := H
  refine ⟨a1, hs, ?_, fun k h L q1 q2 => ⟨(hi k h L q1 q2).1, (hi k h L q1 q2).2.1⟩⟩
  rcases ho with ho | ho
  · exact ho.rd
  · exact ho.2.1
theorem RowsRd.below {B0 : Nat} (h : RowsRd w B N Ls) (hb : Below B0 w w') (hB : w.heap.size ≤ B0) : RowsRd w' B N Ls := by
  obtain ⟨hl, hs, ho, hk⟩ := h
  exact ⟨hl, hs, ho.below hb hB, fun k x L h1 h2 => ⟨(hk k x L h1 h2).1.below hb hB, (hk k x L h1 h2).2⟩⟩
theorem RowsRd.take_ {m : Nat} (h : RowsRd w B N Ls) (hm : m ≤ N) : RowsRd w B m (Ls.take m) := by
  obtain ⟨hl, hs, ho, hk⟩ := h
  refine ⟨by rw [List.length_take]; omega, hs.take m, ho.take_ hm, fun k x L h1 h2 => ?_⟩
  rw [List.getElem?_take] at h1 h2
  split at h1
  · rename_i q; rw [if_pos q] at h2; exact hk k x L h1 h2
  · cases h1
theorem RowsIn.step (H : RowsIn w base lim B N c Ls) (hd : DiskS w base p D) (k : Step M base p w w') (h1 : 23 ∉ 4 :: M) (h2 : 3 ∉ 4 :: M) : RowsIn w' base lim B N c Ls := by
  obtain ⟨a1, a2, a3, hs, hi, ho⟩ := H
  refine ⟨a1, a2, a3, hs, fun k' h L q1 q2 => (hi k' h L q1 q2).step hd k h2, ?_⟩
  rcases ho with ho | ⟨e, ho, hr⟩
  · exact .inl (hd.ow ho k.tch h1)
  · exact .inr ⟨e, ⟨ho.1, ho.2.stepR hr hd k h1⟩, fun h0 => (hr h0).step hd k h1⟩
theorem RowsIn.below (H : RowsIn w base lim B N c Ls) (hb : Below w.heap.size w w') : RowsIn w' base lim B N c Ls := by
  obtain ⟨a1, a2, a3, hs, hi, ho⟩ := H
  refine ⟨a1, a2, a3, hs, fun k' h L q1 q2 => (hi k' h L q1 q2).below hb, ?_⟩
  rcases ho with ho | ⟨e, ho, hr⟩
  · exact .inl (ho.below hb (Nat.le_refl _))
  · refine .inr ⟨e, ho.below hb (Nat.le_refl _), fun h0 g hg => ?_⟩
    rcases hr h0 g hg with q | ⟨cs, q⟩
    · exact .inl q
    · exact .inr ⟨cs, q.below hb q.lt⟩
/-- The first rows, without room. -/
theorem RowsIn.cut (H : RowsIn w base lim B N c Ls) {m : Nat} (hm : m ≤ N) : RowsIn w base lim B m m (Ls.take m) := by
  obtain ⟨a1, a2, a3, hs, hi, ho⟩ := H
  refine ⟨by rw [List.length_take]; omega, Nat.le_refl _, by omega, hs.take m, fun k x L h1 h2 => ?_, .inr ⟨rfl, ?_, fun h0 => ?_⟩⟩
  · rw [List.getElem?_take] at h1 h2
    split at h1
    · rename_i q; rw [if_pos q] at h2; exact hi k x L h1 h2
    · cases h1
  · rcases ho with ho | ho
    · exact ho.rd.take_ hm
    · exact ho.2.1.take_ hm
  · rcases ho with ho | ho
    · exact fun g hg => .inr (ho.blk hg)
    · exact ho.2.2 (by omega)
theorem Step.lower (h : Step M lim p w w') (hb : base ≤ lim) : Step M base p w w' := ⟨h.bel.mono hb, h.tch⟩
theorem RowsIn.lower {l0 : Nat} (H : RowsIn w base lim B N c Ls) (hb : l0 ≤ lim) : RowsIn w base l0 B N c Ls := by
  obtain ⟨a1, a2, a3, hs, hi, ho⟩ := H
  refine ⟨a1, a2, a3, hs, hi, ?_⟩
  rcases ho with ho | ho
  · exact .inl (ho.rebase hb)
  · exact .inr ho
/-- A list of rows that is only read; its headers lie below lim. -/
def RowsFix (w : World) (base lim : Nat) (B : Option Addr) (N : Nat) (Ls : List (List Int)) : Prop :=
  Ls.length = N ∧ N ≤ maxLen ∧ ∃ hs : List SlV, (∀ (k : Nat) (h : SlV) (L : List Int), hs[k]? = some h → Ls[k]? = some L → IntsAt w base h.a h.n L) ∧ Rd slV w B N hs ∧ (0 < N → Rests w base 23 B) ∧ (0 < N → ∀ g, B.map (·.block) = some g → g < lim)
theorem RowsFix.rd (H : RowsFix w base lim B N Ls) : RowsRd w B N Ls := by
  obtain ⟨a1, a2, hs, hi, ho, _⟩ := H
  exact ⟨a1, hs, ho, fun k h L q1 q2 => ⟨(hi k h L q1 q2).1, (hi k h L q1 q2).2.1⟩⟩
theorem RowsFix.step (H : RowsFix w base lim B N Ls) (hd : DiskS w base p D) (k : Step M base p w w') (h1 : 23 ∉ 4 :: M) (h2 : 3 ∉ 4 :: M) : RowsFix w' base lim B N Ls := by
  obtain ⟨a1, a2, hs, hi, ho, hr, hl⟩ := H
  exact ⟨a1, a2, hs, fun k' h L q1 q2 => (hi k' h L q1 q2).step hd k h2, ⟨ho.1, ho.2.stepR hr hd k h1⟩, fun h0 => (hr h0).step hd k h1, hl⟩
theorem RowsFix.below (H : RowsFix w base lim B N Ls) (hb : Below w.heap.size w w') : RowsFix w' base lim B N Ls := by
  obtain ⟨a1, a2, hs, hi, ho, hr, hl⟩ := H
  refine ⟨a1, a2, hs, fun k' h L q1 q2 => (hi k' h L q1 q2).below hb, ho.below hb (Nat.le_refl _), fun h0 g hg => ?_, hl⟩
  rcases hr h0 g hg with q | ⟨cs, q⟩
  · exact .inl q
  · exact .inr ⟨cs, q.below hb q.lt⟩
/-- Where another list has grown. -/
theorem RowsFix.app (H : RowsFix w base lim B N Ls) (hd : DiskS w base p D) (k : Step [23] lim p w w') (hb : base ≤ lim) : RowsFix w' base lim B N Ls := by
  obtain ⟨a1, a2, hs, hi, ho, hr, hl⟩ := H
  refine ⟨a1, a2, hs, fun k' h L q1 q2 => (hi k' h L q1 q2).step hd (k.lower hb) (by decide), ⟨ho.1, fun h0 => (ho.2.sameB k.size (fun b hg _ => k.bel.block b (hl h0 b hg))) h0⟩, fun h0 g hg => ?_, hl⟩
  rcases hr h0 g hg with q | ⟨cs, q⟩
  · exact .inl q
  · exact .inr ⟨cs, q.below k.bel (hl h0 g hg)⟩
end
end Go.Proofs.YtalmdccgpigppaaGreat
namespace Go.Proofs.YtalmdccgpigppaaGreat
open Go.RowKit
set_option linter.unusedVariables false
set_option linter.unusedSimpArgs false
end Go.Proofs.YtalmdccgpigppaaGreat
namespace Go.Proofs.YtalmdccgpigppaaGreat
open Go.RowKit Go.WideShapes Go.ChangeShapes Go.Deep Go.Joins
set_option linter.unusedVariables false
set_option linter.unusedSimpArgs false
section
variable {H : Type} {enc : TypeId × Value → H} {w : World} {base b0 : Nat} {held : Bool} {r : Reach} {v : Value} {d : DataW H} {ps : List MemPlace}
end
end Go.Proofs.YtalmdccgpigppaaGreat
namespace Go.Proofs.YtalmdccgpigppaaGreat
open Go.RowKit
set_option linter.unusedVariables false
set_option linter.unusedSimpArgs false
def Made35 (w : World) (D : DiskV) (e : Ending) (w' : World) : Prop := ∃ p ga, e = .returned (.tuple #[.pointer (some ⟨p.d, 0, none⟩), .pointer (some ⟨ga, 0, none⟩)]) ∧ DiskS w' w.heap.size p D ∧ AreaAt w' ga p.d 1 8 ∧ Below w.heap.size w w'
theorem made35_ok (B : Option Addr) (n d : Nat) (img : List UInt8) (room : Int) (w : World) (hr : RB w B n img) (hnd : n ≤ d) (r0 : 0 ≤ room) (r1 : room ≤ 10) (hl : n ≤ 1280) (hu : (usedN img : Int) ≤ room) :
    Calls Tryz.prog 13 #[.slice B n d, .int .i64 room] w (Made35 w (loadD 10 room img (usedN img))) := by
  have hld : Calls Tryz.prog 52 #[.slice B n d, .int .i64 10, .int .i64 room] w (LdPost w (loadD 10 room img (usedN img))) := load_ok B n d img 10 room w hr hnd (by omega) (by omega) r0 r1 (by omega) hu
  have hmany : (loadD 10 room img (usedN img)).many = 10 := rfl
  generalize loadD 10 room img (usedN img) = D at *
  have hna : ∀ {w1 : World} {p : DiskP}, DiskS w1 w.heap.size p D → w.heap.size ≤ w1.heap.size → Calls Tryz.prog 53 #[.pointer (some ⟨p.d, 0, none⟩), .agg #[.int .i64 1, .int .i64 8]] w1 fun e w' => ∃ ga, e = .returned (.tuple #[.pointer (some ⟨ga, 0, none⟩), .int .i64 0]) ∧ AreaAt w' ga p.d 1 8 ∧ w1.heap.size ≤ ga ∧ DiskS w' w.heap.size p D ∧ Step mutD w.heap.size p w1 w' := fun h hs => s_anew h hs 1 8 (by omega) (by rw [hmany]; omega)
  go_enter Tryz.func13, Tryz.ntmps13
  go_wp2_with (first
    | ((go_at_call 52; (with_reducible refine (hld).mono ?_); rintro e w1 ⟨p, rfl, h1, b1⟩); have H1 := Lib.hid h1; have s1 := b1.size; clear h1)
    | ((go_at_call 53; (with_reducible refine (hna H1.out s1).mono ?_); rintro e w2 ⟨ga, rfl, ha2, hg2, h2, s2⟩); have H2 := Lib.hid h2; have A2 := Lib.hid ha2; clear h2 ha2)
    | fail "no arm")
  go_ret2
  exact ⟨p, ga, rfl, H2.out, A2.out, b1.trans s2.bel⟩
theorem ints_lit {w : World} {base g : Nat} {cs : Array Value} {l : List Int} (hg : w.heap[g]? = some (.cells cs 3 (0, 0))) (h : cs.toList = l.map iv) (hm : l.length ≤ maxLen) : IntsAt w base (some ⟨g, 0, none⟩) l.length l :=
  ⟨(Rd.of_block hg h).ri, hm, fun _ g' hg' => by
    simp only [Option.map_some, Option.some.injEq] at hg'
    subst hg'
    exact .inr ⟨cs.toList, by unfold Blk; rw [hg]⟩⟩
end Go.Proofs.YtalmdccgpigppaaGreat
namespace Go.Proofs.YtalmdccgpigppaaGreat
open Go.RowKit
set_option linter.unusedVariables false
set_option linter.unusedSimpArgs false
theorem skopen_ok {w : World} {base ga f m : Nat} {ts : List Int} {p : DiskP} {D : DiskV} (ha : AreaAt w ga p.d f m) (hm : 1 ≤ m) (hd : DiskS w base p D) (hs : base ≤ w.heap.size) (hfm : f + m ≤ D.many) (hwt : D.waits.length < 900000) (A : Option Addr) (n c : Nat) (ht : IntsAt w base A n ts) {D' : DiskV} {next : Nat} (h : fOpenV D f m 4 ts = (D', next, 0)) :
    Calls Tryz.prog 10 #[.pointer (some ⟨ga, 0, none⟩), .slice A n c] w fun e w' => ∃ g, e = .returned (.tuple #[.pointer (some ⟨g, 0, none⟩), .int .i64 0]) ∧ w.heap.size ≤ g ∧ JRowsAt 107 w' base g ga 4 next ts ∧ DiskS w' base p D' ∧ Step mutD base p w w' := by
  have := skopen_any ha hm hd hs hfm hwt A n c ht
  rw [h] at this
  exact this.mono fun e w' ⟨P, h1, _, h3, h4, h5⟩ => by
    obtain ⟨g, e1, e2, e3⟩ := h3 rfl
    subst e1
    exact ⟨g, h1, e2, e3.at_, h4, h5⟩
set_option maxRecDepth 100000 in
set_option maxHeartbeats 8000000 in
theorem awake36 (w : World) : Calls Tryz.prog 6 #[] w fun e w' => e = .returned (.bool true) ∧ Below w.heap.size w w' := by
  obtain ⟨f1, f2, f3, f4⟩ := k_eqs
  have f5 := k_facts.2.2.2.2
  have m0 : F0.many = 10 := f_many.1
  obtain ⟨m1, m2, m3⟩ := k_many
  have w0 : F0.waits.length = 0 := f_waits.1
  obtain ⟨w1, w2, w3⟩ := k_waits
  have hr12 : rightB [1] = true := by decide
  have hmd : Calls Tryz.prog 13 #[.slice none 0 0, .int .i64 10] w (Made35 w F0) := made35_ok none 0 0 [] 10 w ⟨rfl, Row.nil _ _ _⟩ (by omega) (by omega) (by omega) (by omega) (by show ((0 : Nat) : Int) ≤ 10; omega)
  have i1 : ∀ (W : World) (base : Nat) (z : Int), IntsAt (W.alloc (.cells #[.int .i64 z] 3)) base (some ⟨W.heap.size, 0, none⟩) 1 [z] := fun W base z => ints_lit (l := [z]) (heap_top _ _ rfl) rfl (by unfold maxLen; simp)
  have ok1 : ∀ z : Int, 0 ≤ z → z ≤ 9 → IntOk [z] := fun z h1 h2 i hi => by
    have : i = 0 := by simp at hi; omega
    subst this
    show -9223372036854775808 ≤ z ∧ z ≤ 9223372036854775807
    omega
  have c1 : ∀ {W : World} {base ga : Nat} {p : DiskP}, AreaAt W ga p.d 1 8 → DiskS W base p F0 → base ≤ W.heap.size → Calls Tryz.prog 10 #[.pointer (some ⟨ga, 0, none⟩), .slice (some ⟨W.heap.size, 0, none⟩) 1 1] (W.alloc (.cells #[.int .i64 1] 3)) fun e w' => ∃ g, e = .returned (.tuple #[.pointer (some ⟨g, 0, none⟩), .int .i64 0]) ∧ W.heap.size ≤ g ∧ JRowsAt 107 w' base g ga 4 0 [1] ∧ DiskS w' base p K1 ∧ Step mutD base p W w' :=
    fun {W base ga p} ha hd hs => (skopen_ok (ha.alloc _) (by omega) (hd.alloc _) (by simp; omega) (by rw [m0]; omega) (by rw [w0]; omega) _ 1 1 (i1 W base 1) (D' := K1) (next := 0) f1).mono fun e w' ⟨g, h1, h2, h3, h4, h5⟩ => ⟨g, h1, by simp at h2; omega, h3, h4, (Step.of_below ((Below.refl _ _).alloc (Nat.le_refl _) _) hs).trans h5⟩
  have cp : ∀ (D D' : DiskV) (nx nx' : Nat) (n z : Int) (b : Bool), D.many = 10 → D.waits.length < 10 → nx ≤ 8 → 0 ≤ z → z ≤ 9 → sPutV D 1 8 4 nx [1] n [z] = (D', nx', b, 0) → ∀ (W : World) (base ga g : Nat) (p : DiskP), JRowsAt 107 W base g ga 4 nx [1] → AreaAt W ga p.d 1 8 → DiskS W base p D → base ≤ W.heap.size → Calls Tryz.prog 7 #[.pointer (some ⟨g, 0, none⟩), .int .i64 n, .slice (some ⟨W.heap.size, 0, none⟩) 1 1] (W.alloc (.cells #[.int .i64 z] 3)) fun e w' => e = .returned (.tuple #[.bool b, .int .i64 0]) ∧ DiskS w' base p D' ∧ JRowsAt 107 w' base g ga 4 nx' [1] ∧ Step mutJ base p W w' :=
    fun D D' nx nx' n z b e1 e2 e3 z1 z2 e4 W base ga g p hj ha hd hs => by
      have hb : Below W.heap.size W (W.alloc (.cells #[.int .i64 z] 3)) := (Below.refl _ _).alloc (Nat.le_refl _) _
      have := skput_any (hj.below hb) (hd.alloc _) (by simp; omega) (ha.alloc _) (by rw [e1]; omega) (by omega) e3 (by omega) hr12 n (some ⟨W.heap.size, 0, none⟩) 1 1 (l := [z]) (i1 W 0 z).ri (by decide) (ok1 z z1 z2)
      rw [e4] at this
      exact this.mono fun e w' ⟨h1, h2, h3, h4⟩ => ⟨h1, h2, h3, (Step.of_below hb hs).trans h4⟩
  have c2 := (cp K1 K2 0 1 0 5 true m1 (by omega) (by omega) (by omega) (by omega) f2)
  have c3 := (cp K2 K3 1 2 1 6 true m2 (by omega) (by omega) (by omega) (by omega) f3)
  have c4 := (cp K3 K3 2 2 0 7 false m3 (by omega) (by omega) (by omega) (by omega) f4)
  have c6 : ∀ {W : World} {base ga g : Nat} {p : DiskP}, JRowsAt 107 W base g ga 4 2 [1] → AreaAt W ga p.d 1 8 → DiskS W base p K3 → base ≤ W.heap.size → Calls Tryz.prog 41 #[.pointer (some ⟨g, 0, none⟩), .int .i64 0] W fun e w' => ∃ B d, e = .returned (.tuple #[.slice B 1 d, .int .i64 0]) ∧ RI w' B 1 [5] ∧ JRowsAt 107 w' base g ga 4 2 [1] ∧ Step mutD base p W w' :=
    fun hj ha hd hs => by
      have := skget_any hj hd hs ha (by rw [m3]; omega) (by omega) 0
      rw [f5] at this
      exact this.mono fun e w' ⟨B, k, d, h1, h2, h3, h4⟩ => by
        have hk : k = 1 := h2.1.symm
        subst hk
        exact ⟨B, d, h1, h2.rd.ri, hj.step hd h4 (by decide) (by decide) (by decide), h4⟩
  have c8 : ∀ {W : World} {L : Option Addr} {d g : Nat}, RI W L 1 [5] → g = W.heap.size → Calls Tryz.prog 42 #[.slice L 1 d, .slice (some ⟨g, 0, none⟩) 1 1] (W.alloc (.cells #[.int .i64 5] 3)) fun e w' => e = .returned (.bool true) ∧ ∃ q, w' = (W.alloc (.cells #[.int .i64 5] 3)).drewN q :=
    fun {W L d g} hl hg => by
      subst hg
      exact (ints_any L (some ⟨W.heap.size, 0, none⟩) 1 1 d 1 [5] [5] _ (hl.below (B := W.heap.size) ((Below.refl _ _).alloc (Nat.le_refl _) _) (Nat.le_refl _)) (i1 W 0 5).ri (by decide)).mono fun e w' ⟨h1, h2⟩ => ⟨by rw [h1, decide_eq_true (rfl : ([5] : List Int) = [5])], h2⟩
  generalize K3 = d4 at *
  generalize K2 = d3 at *
  generalize K1 = d2 at *
  generalize F0 = d1 at *
  clear f1 f2 f3 f4 f5 m0 m1 m2 m3 w0 w1 w2 w3 i1 cp
  go_enter Tryz.func6, Tryz.ntmps6
  go_wp2_with (first
    | ((go_at_call 13; (with_reducible refine (hmd).mono ?_); rintro e w1 ⟨p, ga, rfl, h1, a1, b1⟩); have H1 := Lib.hid h1; have A1 := Lib.hid a1; have s1 := b1.size; clear h1 a1)
    | ((go_at_call 10; (with_reducible refine (c1 A1.out H1.out s1).mono ?_); rintro e w2 ⟨gj, rfl, g2, j2, h2, st2⟩); have A2 := Lib.hid (H1.out.area A1.out st2.tch (by decide)); have H2 := Lib.hid h2; have J2 := Lib.hid j2; have S2 := Lib.hid (b1.trans st2.bel); have s2 := S2.out.size; clear h2 j2 st2)
    | ((go_at_call 7; (with_reducible refine (c2 _ _ _ _ _ J2.out A2.out H2.out s2).mono ?_); rintro e w3 ⟨rfl, h3, j3, st3⟩); have A3 := Lib.hid (H2.out.area A2.out st3.tch (by decide)); have B3 := Lib.hid (S2.out.trans st3.bel); have H3 := Lib.hid h3; have J3 := Lib.hid j3; have s3 := B3.out.size; clear h3 j3 st3)
    | ((go_at_call 7; (with_reducible refine (c3 _ _ _ _ _ J3.out A3.out H3.out s3).mono ?_); rintro e w4 ⟨rfl, h4, j4, st4⟩); have A4 := Lib.hid (H3.out.area A3.out st4.tch (by decide)); have B4 := Lib.hid (B3.out.trans st4.bel); have H4 := Lib.hid h4; have J4 := Lib.hid j4; have s4 := B4.out.size; clear h4 j4 st4)
    | ((go_at_call 7; (with_reducible refine (c4 _ _ _ _ _ J4.out A4.out H4.out s4).mono ?_); rintro e w6 ⟨rfl, h6, j6, st6⟩); have A6 := Lib.hid (H4.out.area A4.out st6.tch (by decide)); have B6 := Lib.hid (B4.out.trans st6.bel); have H6 := Lib.hid h6; have J6 := Lib.hid j6; have s6 := B6.out.size; clear h6 j6 st6)
    | ((go_at_call 41; (with_reducible refine (c6 J6.out A6.out H6.out s6).mono ?_); rintro e w7 ⟨L, dd, rfl, r7, j7, st7⟩); have J7 := Lib.hid j7; have B7 := Lib.hid (B6.out.trans st7.bel); have s7 := B7.out.size; have R7 := Lib.hid r7; clear r7 st7 j7)
    | (go_at_call 8; (with_reducible refine (sklen_any J7.out).mono ?_); rintro e w8 ⟨rfl, rfl⟩)
    | ((go_at_call 42; (with_reducible refine (c8 R7.out rfl).mono ?_); rintro e w10 ⟨rfl, q10, rfl⟩))
    | fail "no arm")
  go_ret
  exact ⟨rfl, below_drewN ((B7.out.alloc s7 _)) q10⟩
end Go.Proofs.YtalmdccgpigppaaGreat
