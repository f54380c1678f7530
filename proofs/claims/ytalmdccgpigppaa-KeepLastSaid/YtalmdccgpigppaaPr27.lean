/- Parts: Step. -/
import Derived.Test.YtalmdccgpigppaaPr26
namespace Go.Proofs.Ytalmdccgpigppaa
open Go.RowKit
set_option linter.unusedVariables false
set_option linter.unusedSimpArgs false
/-- Types of blocks that what is done to a disk changes. -/
def mutD : List TypeId := [119, 128, 217, 130]
/-- Only blocks of those types were changed, and the two rows of bools. -/
def Touch (M : List TypeId) (p : DiskP) (w w' : World) : Prop := ∃ F : Nat → Prop, Keep F w w' ∧ ∀ g t cs, F g → Blk w g t cs → t ∈ M ∨ g = p.gi ∨ g = p.gm
structure Step (M : List TypeId) (base : Nat) (p : DiskP) (w w' : World) : Prop where
  bel : Below base w w'
  tch : Touch M p w w'
section
variable {M N : List TypeId} {w w' w'' : World} {base : Nat} {p : DiskP} {A : Option Addr} {c : Nat} {D D' : DiskV}
theorem Touch.of_below (hb : Below w.heap.size w w') : Touch M p w w' := ⟨fun _ => False, Keep.of_below hb, fun _ _ _ h => h.elim⟩
theorem Touch.refl (M : List TypeId) (p : DiskP) (w : World) : Touch M p w w := Touch.of_below (Below.refl _ _)
theorem Touch.trans (h : Touch M p w w') (k : Touch M p w' w'') : Touch M p w w'' := by
  obtain ⟨F, hF, tF⟩ := h
  obtain ⟨G, hG, tG⟩ := k
  refine ⟨fun g => F g ∨ G g, (hF.mono (fun g _ e => .inl e)).trans hG (fun g _ e => .inr e), fun g t cs hfg hb => ?_⟩
  by_cases hf : F g
  · exact tF g t cs hf hb
  · rcases hfg with e | e
    · exact absurd e hf
    · exact tG g t cs e (hb.keep hF hf)
theorem Touch.of_next (h : DiskAt w base p A c D) (k : Keep (foot p A) w w') : Touch mutD p w w' := ⟨foot p A, k, fun g t cs hg hb => by
  by_cases h1 : g = p.gi
  · exact .inr (.inl h1)
  by_cases h2 : g = p.gm
  · exact .inr (.inr h2)
  left
  rcases h.foot_ty hb hg with q | q | q | q | q
  · subst q; decide
  · subst q; decide
  · subst q
    have hne : ∀ {g' : Nat} {t' : TypeId} {cs' : List Value}, Blk w g' t' cs' → 4 ≠ t' → g ≠ g' := fun hb' hn => hb.ne_ hb' hn
    rcases hg with e | e | e | e | e | e | e
    · exact absurd e (hne h.st (by decide))
    · exact absurd e (hne h.bk (by decide))
    · exact absurd e (hne h.bn (by decide))
    · exact absurd e h1
    · exact absurd e h2
    · exact absurd e (hne h.mt.2 (by decide))
    · exfalso
      rcases h.wa.2 with ⟨hv, _⟩ | ⟨g', cap, cur, hv, _, hh, _⟩
      · injection hv with hv; subst hv; cases e
      · injection hv with hv; subst hv
        simp only [Option.map_some, Option.some.injEq] at e
        exact hne (g' := g') (t' := 130) (cs' := cur.toList) (by unfold Blk; rw [hh]) (by decide) e.symm
  · subst q; decide
  · subst q; decide⟩
theorem Touch.one {g : Nat} {t : TypeId} {cs : List Value} (hg : w.grownBy w' (some g)) (hb : Blk w g t cs) (ht : t ∈ M) : Touch M p w w' := ⟨(· = g), Keep.one hg, fun g' t' cs' e hb' => by
  subst e
  by_cases q : t' = t
  · subst q; exact .inl ht
  · exact absurd rfl (hb'.ne_ hb q)⟩
theorem Blk.touch {g : Nat} {t : TypeId} {cs : List Value} (h : Blk w g t cs) (k : Touch M p w w') (ht : t ∉ M) (h1 : g ≠ p.gi) (h2 : g ≠ p.gm) : Blk w' g t cs := by
  obtain ⟨F, hF, tF⟩ := k
  refine h.keep hF (fun e => ?_)
  rcases tF g t cs e h with q | q | q
  · exact ht q
  · exact h1 q
  · exact h2 q
/-- A block of a type that is not bool. -/
theorem DiskS.notBool (h : DiskS w base p D) {g : Nat} {t : TypeId} {cs : List Value} (hb : Blk w g t cs) (ht : t ≠ 4) : g ≠ p.gi ∧ g ≠ p.gm := by
  obtain ⟨A, c, h⟩ := h
  exact ⟨hb.ne_ h.bi ht, hb.ne_ h.bm ht⟩
theorem DiskS.blk (h : DiskS w base p D) {g : Nat} {t : TypeId} {cs : List Value} (hb : Blk w g t cs) (k : Touch M p w w') (ht : t ∉ 4 :: M) : Blk w' g t cs := by
  obtain ⟨h1, h2⟩ := h.notBool hb (fun e => ht (by rw [e]; exact List.mem_cons_self ..))
  exact hb.touch k (fun e => ht (List.mem_cons_of_mem _ e)) h1 h2
theorem DiskS.area (h : DiskS w base p D) {ga d f m : Nat} (ha : AreaAt w ga d f m) (k : Touch M p w w') (ht : 169 ∉ 4 :: M) : AreaAt w' ga d f m := h.blk ha k ht
theorem DiskS.ow {α : Type} {enc : α → Value} {b n d : Nat} {e : TypeId} {B : Option Addr} {l : List α} (h : DiskS w base p D) (ho : Ow enc w b e B n d l) (k : Touch M p w w') (ht : e ∉ 4 :: M) : Ow enc w' b e B n d l := by
  obtain ⟨F, hF, tF⟩ := k
  refine ⟨ho.1, own_keep ho.2 hF (fun g hg hf => ?_)⟩
  rcases ho.2.2 with ⟨hv, _⟩ | ⟨g', cap, cur, hv, _, hh, _⟩
  · rw [hv] at hg; cases hg
  · rw [hv] at hg
    have : g' = g := by simpa [Value.ownBlock] using hg
    subst this
    have hb : Blk w g' e cur.toList := by unfold Blk; rw [hh]
    obtain ⟨h1, h2⟩ := h.notBool hb (fun e => ht (by rw [e]; exact List.mem_cons_self ..))
    rcases tF _ _ _ hf hb with q | q | q
    · exact ht (List.mem_cons_of_mem _ q)
    · exact h1 q
    · exact h2 q
theorem DiskS.ob {b n d : Nat} {B : Option Addr} {l : List UInt8} (h : DiskS w base p D) (ho : OB w b 5 B n d l) (k : Touch M p w w') (ht : 5 ∉ 4 :: M) : OB w' b 5 B n d l := h.ow ho k ht
theorem Touch.mono (h : Touch M p w w') (hs : ∀ t, t ∈ M → t ∈ N) : Touch N p w w' := by
  obtain ⟨F, hF, tF⟩ := h
  exact ⟨F, hF, fun g t cs e hb => by rcases tF g t cs e hb with q | q; exact .inl (hs t q); exact .inr q⟩
theorem Step.mono (h : Step M base p w w') (hs : ∀ t, t ∈ M → t ∈ N) : Step N base p w w' := ⟨h.bel, h.tch.mono hs⟩
theorem Step.refl (M : List TypeId) (base : Nat) (p : DiskP) (w : World) : Step M base p w w := ⟨Below.refl _ _, Touch.refl _ _ _⟩
theorem Step.of_below (hb : Below w.heap.size w w') (hs : base ≤ w.heap.size) : Step M base p w w' := ⟨hb.mono hs, Touch.of_below hb⟩
theorem Step.trans (h : Step M base p w w') (k : Step M base p w' w'') : Step M base p w w'' := ⟨h.bel.trans k.bel, h.tch.trans k.tch⟩
theorem Step.of_next (h : DiskAt w base p A c D) (hs : base ≤ w.heap.size) (hN : DiskNext w base p A D' w') : Step mutD base p w w' := by
  obtain ⟨A', c', h1, k, _⟩ := hN
  exact ⟨h.belowK k hs, Touch.of_next h k⟩
theorem Step.of_keep (h : DiskAt w base p A c D) (hs : base ≤ w.heap.size) (k : Keep (foot p A) w w') : Step mutD base p w w' := ⟨h.belowK k hs, Touch.of_next h k⟩
theorem Step.one {g : Nat} {t : TypeId} {cs : List Value} (hg : w.grownBy w' (some g)) (hb : Blk w g t cs) (ht : t ∈ M) (hs : base ≤ g) (hw : base ≤ w.heap.size) : Step M base p w w' := ⟨below_of_only (Below.refl _ _) hg hw hs, Touch.one hg hb ht⟩
theorem Step.size (h : Step M base p w w') : w.heap.size ≤ w'.heap.size := h.bel.size
end
section
variable {w : World} {base ga f m : Nat} {p : DiskP} {D : DiskV}
theorem s_cut (h : DiskS w base p D) (hs : base ≤ w.heap.size) (n : Int) (hn : n ≤ 9223372036854775807) : Calls Try.prog 12 #[.pointer (some ⟨p.d, 0, none⟩), .int .i64 n] w fun e w' => e = .returned (.tuple #[]) ∧ DiskS w' base p { D with cut := max n (-1) } ∧ Step mutD base p w w' := by
  obtain ⟨A, c, h⟩ := h
  exact (cut_any h n hn).mono fun e w' ⟨h1, h2, h3, _⟩ => ⟨h1, h2.s, Step.of_keep h hs h3⟩
theorem s_crash (h : DiskS w base p D) (hs : base ≤ w.heap.size) (B : Option Addr) (n d : Nat) (cs : List UInt8) (hl : RB w B n cs) (hB : 0 < n → ∀ g, B.map (·.block) = some g → g < base) (hn : n ≤ maxLen) :
    Calls Try.prog 14 #[.pointer (some ⟨p.d, 0, none⟩), .slice B n d] w fun e w' => e = .returned (.tuple #[]) ∧ DiskS w' base p (crashV D cs) ∧ Step mutD base p w w' := by
  obtain ⟨A, c, h⟩ := h
  exact (crash_any h B n d cs hl (fun h0 g hg e => by have := hB h0 g e; have := h.bs g hg; omega) hn).mono fun e w' ⟨h1, h2⟩ => ⟨h1, h2.s, Step.of_next h hs h2⟩
theorem s_aread (h : DiskS w base p D) (hs : base ≤ w.heap.size) (ha : AreaAt w ga p.d f m) (hfm : f + m ≤ D.many) (n : Int) :
    Calls Try.prog 76 #[.pointer (some ⟨ga, 0, none⟩), .int .i64 n] w fun e w' => e = .returned (.tuple #[aggB (aReadV D f m n).2.1, .int .i64 (aReadV D f m n).2.2]) ∧ DiskS w' base p (aReadV D f m n).1 ∧ Step mutD base p w w' := by
  obtain ⟨A, c, h⟩ := h
  exact (aread_any h ha hfm n).mono fun e w' ⟨h1, h2, h3⟩ => ⟨h1, h2.s, Step.of_keep h hs h3⟩
theorem s_awrite (h : DiskS w base p D) (hs : base ≤ w.heap.size) (ha : AreaAt w ga p.d f m) (hfm : f + m ≤ D.many) (n : Int) (S : List UInt8) (hS : S.length = 128) (hw : D.waits.length < 1000000) :
    Calls Try.prog 83 #[.pointer (some ⟨ga, 0, none⟩), .int .i64 n, aggB S] w fun e w' => e = .returned (.int .i64 (aWriteV D f m n S).2) ∧ DiskS w' base p (aWriteV D f m n S).1 ∧ Step mutD base p w w' := by
  obtain ⟨A, c, h⟩ := h
  exact (awrite_any h ha hfm n S hS hw hs).mono fun e w' ⟨h1, h2⟩ => ⟨h1, h2.s, Step.of_next h hs h2⟩
theorem s_awipe (h : DiskS w base p D) (hs : base ≤ w.heap.size) (ha : AreaAt w ga p.d f m) (hfm : f + m ≤ D.many) (n : Int) (hw : D.waits.length < 1000000) :
    Calls Try.prog 50 #[.pointer (some ⟨ga, 0, none⟩), .int .i64 n] w fun e w' => e = .returned (.int .i64 (aWriteV D f m n zerosL).2) ∧ DiskS w' base p (aWriteV D f m n zerosL).1 ∧ Step mutD base p w w' := by
  obtain ⟨A, c, h⟩ := h
  exact (awipe_any h ha hfm n hw hs).mono fun e w' ⟨h1, h2⟩ => ⟨h1, h2.s, Step.of_next h hs h2⟩
theorem s_aflush (h : DiskS w base p D) (hs : base ≤ w.heap.size) (ha : AreaAt w ga p.d f m) :
    Calls Try.prog 51 #[.pointer (some ⟨ga, 0, none⟩)] w fun e w' => e = .returned (.int .i64 (flushV D).2) ∧ DiskS w' base p (flushV D).1 ∧ Step mutD base p w w' := by
  obtain ⟨A, c, h⟩ := h
  exact (aflush_any h ha).mono fun e w' ⟨h1, h2⟩ => ⟨h1, h2.s, Step.of_next h hs h2⟩
theorem s_aput (h : DiskS w base p D) (hs : base ≤ w.heap.size) (ha : AreaAt w ga p.d f m) (hfm : f + m ≤ D.many) (n kind number : Int) (B : Option Addr) (k d : Nat) (l : List UInt8) (hl : RB w B k l) (hk : k ≤ maxLen) (hnum : number ≤ 9223372036854775807) (hw : D.waits.length < 1000000) :
    Calls Try.prog 55 #[.pointer (some ⟨ga, 0, none⟩), .int .i64 n, .int .i64 kind, .int .i64 number, .slice B k d] w fun e w' => e = .returned (.int .i64 (aPutV D f m n kind number l).2) ∧ DiskS w' base p (aPutV D f m n kind number l).1 ∧ Step mutD base p w w' := by
  obtain ⟨A, c, h⟩ := h
  exact (aput_any (d := d) h ha hfm n kind number B k l hl hk hnum hw hs).mono fun e w' ⟨h1, h2⟩ => ⟨h1, h2.s, Step.of_next h hs h2⟩
theorem s_atake (h : DiskS w base p D) (hs : base ≤ w.heap.size) (ha : AreaAt w ga p.d f m) (hfm : f + m ≤ D.many) (n kind : Int) :
    Calls Try.prog 44 #[.pointer (some ⟨ga, 0, none⟩), .int .i64 n, .int .i64 kind] w fun e w' =>
      ∃ B k d, e = .returned (.tuple #[.int .i64 (aTakeV D f m n kind).1, .slice B k d, .int .i64 (aTakeV D f m n kind).2.2]) ∧ OB w' w.heap.size 5 B k d (aTakeV D f m n kind).2.1 ∧ DiskS w' base p (aReadV D f m n).1 ∧ Step mutD base p w w' := by
  obtain ⟨A, c, h⟩ := h
  exact (atake_any h ha hfm n kind).mono fun e w' ⟨B, k, d, h1, h2, h3, h4⟩ => ⟨B, k, d, h1, h2, h3.s, Step.of_keep h hs h4⟩
end
end Go.Proofs.Ytalmdccgpigppaa
