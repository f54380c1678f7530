/- SlotsTurn: the slots are taken in turn. -/
import Derived.Test.YtalmdccgpigppaaPlainTurn
import Derived.Test.YtalmdccgpigppaaSlotC
import Derived.IntWalk
namespace Go.Proofs.Ytalmdccgpigppaa
open Go.RowKit Go.WideShapes Go.ChangeShapes Go.Deep Go.Joins
set_option linter.unusedVariables false
set_option linter.unusedSimpArgs false
/-- Slices of slices of bytes, with what room they have. -/
def LsRdC (w : World) (B : Option Addr) (N : Nat) (Ls : List (List UInt8)) : Prop := Ls.length = N ∧ ∃ hs : List SlV, Rd slV w B N hs ∧ ∀ (k : Nat) (h : SlV) (L : List UInt8), hs[k]? = some h → Ls[k]? = some L → RB w h.a h.n L ∧ h.n ≤ h.c ∧ h.c ≤ maxLen
section
variable {H : Type} {enc : TypeId × Value → H} {P : Program} {w : World} {base b0 : Nat} {held : Bool} {r : Reach} {v : Value} {d : DataW H} {ps : List MemPlace}
theorem args_listsC {t e b : TypeId} (ht : P.underlying t = some (.slice e)) (he : P.underlying e = some (.slice b)) (hb : P.underlying b = some (.int .u8)) (hcb : P.cellsOf b = 1) (hce : P.cellsOf e = 1)
    (hval : Value.okWide P w r b0 t v) (hd : DataW.Trod enc P w base (fun _ => true) held t v d ps) :
    ∃ A n c l, v = .slice A n c ∧ LsRdC w A n l ∧ n ≤ c ∧ c ≤ maxLen := by
  obtain ⟨a0, len, cap, rfl⟩ := okWide_slice ht hval
  obtain ⟨fuel, hf⟩ := hd
  rcases open_slice1 ht hce hf with ⟨hcs, _⟩ | ⟨x, l, c, m, nf, V, D, Pl, hcs, _, hl, hm, hmm, _, hat⟩
  · simp [Value.cells] at hcs
    obtain ⟨rfl, rfl, rfl⟩ := hcs
    exact ⟨none, 0, 0, [], rfl, ⟨rfl, [], Rd.nil _ _ _, fun k h L h1 => by simp at h1⟩, Nat.le_refl _, by unfold maxLen; omega⟩
  · simp [Value.cells] at hcs
    obtain ⟨rfl, rfl, rfl⟩ := hcs
    simp only [if_true] at hmm
    have hx : ∀ i, i < len → ∃ q : SlV × List UInt8, V i = slV q.1 ∧ RB w q.1.a q.1.n q.2 ∧ q.1.n ≤ q.1.c ∧ q.1.c ≤ maxLen := by
      intro i hi
      obtain ⟨_, htr⟩ := hat i (by omega)
      obtain ⟨B, k, c', L, e1, r1, k1, m1⟩ := trod_bytes he hb hcb htr
      exact ⟨(⟨B, k, c'⟩, L), e1, r1, k1, m1⟩
    obtain ⟨l, hl', hp⟩ := list_of hx
    refine ⟨some x, len, cap, l.map (·.2), rfl, ⟨by simpa using hl', l.map (·.1), ⟨by simpa using hl', fun h0 => ?_⟩, fun k h L h1 h2 => ?_⟩, hl, hm⟩
    · obtain ⟨c0, _⟩ := hat 0 (by omega)
      have hs : x.spot = none := spot_none (a := x) (by simpa [Addr.add] using c0)
      obtain ⟨bb, o, s⟩ := x
      simp only at hs
      subst hs
      have hadd : ∀ q, (⟨bb, o, none⟩ : Addr).add q = ⟨bb, o + q, none⟩ := fun q => by unfold Addr.add; split <;> simp_all
      refine ⟨bb, o, rfl, World.block_lt_of_cell? w ⟨bb, o, none⟩ (by simpa [Addr.add] using c0), fun i hi => ?_⟩
      obtain ⟨ci, _⟩ := hat i (by omega)
      rw [hadd] at ci
      have hil : i < l.length := by omega
      obtain ⟨e1, _⟩ := hp i _ (List.getElem?_eq_getElem hil)
      rw [ci, e1]
      show _ = some ((((l.map (·.1)).map slV)).getD i undef)
      rw [List.getD_eq_getElem?_getD, List.getElem?_map, List.getElem?_map, List.getElem?_eq_getElem hil]; rfl
    · rw [List.getElem?_map] at h1 h2
      cases hk : l[k]? with
      | none => rw [hk] at h1; cases h1
      | some q =>
        rw [hk] at h1 h2
        simp only [Option.map_some, Option.some.injEq] at h1 h2
        subst h1 h2
        exact (hp k q hk).2
set_option maxRecDepth 100000 in
theorem args_llC (hval : Value.okWide Try.prog w r b0 23 v) (hd : DataW.Trod enc Try.prog w base (fun _ => true) held 23 v d ps) : ∃ A n c l, v = .slice A n c ∧ LsRdC w A n l ∧ n ≤ c ∧ c ≤ maxLen :=
  args_listsC Try.underlying23 Try.underlying26 Try.underlying5 (by kernel_rfl) (by kernel_rfl) hval hd
end
section
variable {w w' : World} {B : Option Addr} {N : Nat} {Ls : List (List UInt8)}
theorem LsRdC.below {B0 : Nat} (h : LsRdC w B N Ls) (hb : Below B0 w w') (hB : w.heap.size ≤ B0) : LsRdC w' B N Ls := by
  obtain ⟨hl, hs, hr, hk⟩ := h
  exact ⟨hl, hs, hr.below hb hB, fun k h L q1 q2 => ⟨(hk k h L q1 q2).1.below hb hB, (hk k h L q1 q2).2⟩⟩
theorem LsRdC.at_ (h : LsRdC w B N Ls) {k : Nat} (hk : k < N) : ∃ b o A n c L, B = some ⟨b, o, none⟩ ∧ b < w.heap.size ∧ w.cell? ⟨b, o + k, none⟩ = some (.slice A n c) ∧ Ls[k]? = some L ∧ RB w A n L ∧ n ≤ c ∧ c ≤ maxLen := by
  obtain ⟨hl, hs, hr, hq⟩ := h
  obtain ⟨b, o, hB, hb, hc⟩ := hr.2.at_ hk
  have h1 : k < hs.length := by rw [hr.1]; exact hk
  have h2 : k < Ls.length := by omega
  obtain ⟨e1, e2, e3⟩ := hq k hs[k] Ls[k] (List.getElem?_eq_getElem h1) (List.getElem?_eq_getElem h2)
  refine ⟨b, o, hs[k].a, hs[k].n, hs[k].c, Ls[k], hB, hb, ?_, List.getElem?_eq_getElem h2, e1, e2, e3⟩
  rw [hc, getD_map hs k h1]
  rfl
end
theorem openV_seal {n : Nat} {L : List UInt8} (hn : n < 9223372036854775808) (hL : L.length ≤ 113) : openV (sealL 2 n L) 2 = ((n : Int), L, 0) := by
  obtain ⟨h1, h2, h3⟩ := opens_seal (kind := 2) (n := n) (load := L) (by omega) (by omega) hn hL
  have e : (2 : Int).toNat = 2 := rfl
  rw [e] at h1 h2 h3
  unfold openV
  rw [if_pos h1, h2, h3]
  unfold sg
  rw [if_pos hn]
theorem calm_take {D : DiskV} (h : Calm D) {f : Nat} (hf : f + 6 ≤ D.many) : aTakeV D f 6 0 2 = openV (secOf D.now (f : Int)) 2 ∧ (aReadV D f 6 0).1 = readV' D := by
  have hr : aReadV D f 6 0 = (readV' D, secOf D.now (f : Int), 0) := by
    have := onRead (D := D) (f := f) (m := 6) (k := 0) h.off hf (by omega)
    rw [Nat.add_zero] at this
    exact this
  unfold aTakeV
  rw [hr]
  exact ⟨by rw [if_neg (by simp)], rfl⟩
/-- What holds behind i saves. -/
structure Turn (D : DiskV) (s : SlV3) (i : Nat) : Prop where
  calm : Calm D
  many : D.many = 12
  waits : D.waits = []
  num : s.number = (i : Int)
  now : s.now = if i = 0 then 2 else (i - 1) % 2
  newest : 0 < i → (openV (secOf D.now ((6 * ((i - 1) % 2) : Nat) : Int)) 2).1 = (i : Int) ∧ (openV (secOf D.now ((6 * ((i - 1) % 2) : Nat) : Int)) 2).2.2 = 0
  older : 1 < i → (openV (secOf D.now ((6 * (i % 2) : Nat) : Int)) 2).1 = ((i - 1 : Nat) : Int) ∧ (openV (secOf D.now ((6 * (i % 2) : Nat) : Int)) 2).2.2 = 0
  blank : i ≤ 1 → (openV (secOf D.now (6 : Int)) 2).2.2 = 53
theorem Turn.read {D : DiskV} {s : SlV3} {i : Nat} (h : Turn D s i) : Turn (readV' D) s i := ⟨h.calm.ops _, h.many, h.waits, h.num, h.now, h.newest, h.older, h.blank⟩
theorem Turn.save {D : DiskV} {s : SlV3} {i : Nat} (h : Turn D s i) (hi : i < 12) {L : List UInt8} (hL : L.length ≤ 512) : (saveSV D 0 6 6 6 s L).2.2 = 0 ∧ Turn (saveSV D 0 6 6 6 s L).1 (saveSV D 0 6 6 6 s L).2.1 (i + 1) ∧ (saveSV D 0 6 6 6 s L).2.1.load = L := by
  have hnow := h.now
  have hf : (if s.now = 0 then 6 else 0) = 6 * (i % 2) := by
    rw [hnow]
    by_cases h0 : i = 0
    · subst h0; rfl
    · rw [if_neg h0]
      by_cases h1 : (i - 1) % 2 = 0
      · rw [if_pos h1]; omega
      · rw [if_neg h1]; omega
  have ho : (if s.now = 0 then 1 else 0) = i % 2 := by
    rw [hnow]
    by_cases h0 : i = 0
    · subst h0; rfl
    · rw [if_neg h0]
      by_cases h1 : (i - 1) % 2 = 0
      · rw [if_pos h1]; omega
      · rw [if_neg h1]; omega
  have hm6 : (if s.now = 0 then 6 else 6) = 6 := by split <;> rfl
  have hfm : 6 * (i % 2) + 6 ≤ D.many := by rw [h.many]; omega
  obtain ⟨a1, a2, a3, a4, a5, a6⟩ := calm_save h.calm hfm (by omega) (by rw [h.waits]; simp) (number := i + 1) (by omega) hL
  have e : saveSV D 0 6 6 6 s L = ((saveA D (6 * (i % 2)) 6 ((i + 1 : Nat) : Int) L).1, ⟨i % 2, ((i + 1 : Nat) : Int), L⟩, 0) := by
    unfold saveSV
    rw [if_neg (by rw [h.num]; omega), hf, ho, hm6, h.num, show (i : Int) + 1 = ((i + 1 : Nat) : Int) by omega, if_neg (by rw [a1]; simp)]
  rw [e]
  have hop := openV_seal (n := i + 1) (L := headL L) (by omega) (by rw [headL_len]; omega)
  refine ⟨rfl, ⟨a2, a3.trans h.many, a4, rfl, ?_, fun _ => ?_, fun h1 => ?_, fun h1 => ?_⟩, rfl⟩
  · show i % 2 = if i + 1 = 0 then 2 else (i + 1 - 1) % 2
    rw [if_neg (by omega), Nat.add_sub_cancel]
  · show (openV (secOf (saveA D (6 * (i % 2)) 6 ((i + 1 : Nat) : Int) L).1.now ((6 * ((i + 1 - 1) % 2) : Nat) : Int)) 2).1 = _ ∧ (openV (secOf (saveA D (6 * (i % 2)) 6 ((i + 1 : Nat) : Int) L).1.now ((6 * ((i + 1 - 1) % 2) : Nat) : Int)) 2).2.2 = 0
    rw [Nat.add_sub_cancel, a5, hop]
    exact ⟨rfl, rfl⟩
  · show (openV (secOf (saveA D (6 * (i % 2)) 6 ((i + 1 : Nat) : Int) L).1.now ((6 * ((i + 1) % 2) : Nat) : Int)) 2).1 = _ ∧ (openV (secOf (saveA D (6 * (i % 2)) 6 ((i + 1 : Nat) : Int) L).1.now ((6 * ((i + 1) % 2) : Nat) : Int)) 2).2.2 = 0
    have hq := h.newest (by omega)
    rw [a6 (6 * ((i + 1) % 2)) (by rw [h.many]; omega) (by omega), show (i + 1) % 2 = (i - 1) % 2 by omega, Nat.add_sub_cancel]
    exact hq
  · show (openV (secOf (saveA D (6 * (i % 2)) 6 ((i + 1 : Nat) : Int) L).1.now (6 : Int)) 2).2.2 = 53
    have i0 : i = 0 := by omega
    subst i0
    have hq := h.blank (by omega)
    have hs := a6 6 (by rw [h.many]; omega) (by omega)
    rw [show ((6 : Nat) : Int) = 6 from rfl] at hs
    rw [hs]
    exact hq
set_option maxRecDepth 1000000 in
theorem o10_read : O10a.1 = readV' (readV' D10a) := by kernel_rfl
theorem o10_slots : O10a.2.1.number = 0 ∧ O10a.2.1.now = 2 ∧ (openV (secOf D10a.now (6 : Int)) 2).2.2 = 53 ∧ D10a.many = 12 ∧ D10a.waits.length = 0 := by decide +kernel
theorem Turn.first : Turn O10a.1 O10a.2.1 0 := by
  have hc : Calm D10a := by
    have := calm_new (many := 12) (by omega) (by omega)
    show Calm (loadD 12 12 [] 0)
    rw [loadD_zero]
    exact this
  obtain ⟨h1, h2, h3, h4, h5⟩ := o10_slots
  rw [o10_read]
  generalize O10a = o at *
  generalize D10a = d at *
  exact ⟨(hc.ops _).ops _, h4, List.eq_nil_of_length_eq_zero h5, h1, h2, fun e => absurd e (by omega), fun e => absurd e (by omega), fun _ => h3⟩
section
variable {w0 W : World} {base ga gb : Nat} {p : DiskP} {D : DiskV}
theorem take_l (O : A10 w0 W base p ga gb D) (hc : Calm D) (hm : D.many = 12) {N E : Int} (h1 : (openV (secOf D.now (0 : Int)) 2).1 = N) (h2 : (openV (secOf D.now (0 : Int)) 2).2.2 = E) : Calls Try.prog 44 #[.pointer (some ⟨ga, 0, none⟩), .int .i64 0, .int .i64 2] W fun e w' => ∃ B k d, e = .returned (.tuple #[.int .i64 N, .slice B k d, .int .i64 E]) ∧ DiskS w' base p (readV' D) ∧ Step mutD base p W w' := by
  obtain ⟨e1, e2⟩ := calm_take hc (f := 0) (by rw [hm]; omega)
  rw [show ((0 : Nat) : Int) = 0 from rfl] at e1
  have := s_atake O.sd O.size O.a (by rw [hm]; omega) 0 2
  rw [e1, e2, h1, h2] at this
  exact this.mono fun e w' ⟨B, k, d, x1, _, x3, x4⟩ => ⟨B, k, d, x1, x3, x4⟩
theorem take_r (O : A10 w0 W base p ga gb D) (hc : Calm D) (hm : D.many = 12) {N E : Int} (h1 : (openV (secOf D.now (6 : Int)) 2).1 = N) (h2 : (openV (secOf D.now (6 : Int)) 2).2.2 = E) : Calls Try.prog 44 #[.pointer (some ⟨gb, 0, none⟩), .int .i64 0, .int .i64 2] W fun e w' => ∃ B k d, e = .returned (.tuple #[.int .i64 N, .slice B k d, .int .i64 E]) ∧ DiskS w' base p (readV' D) ∧ Step mutD base p W w' := by
  obtain ⟨e1, e2⟩ := calm_take hc (f := 6) (by rw [hm]; omega)
  rw [show ((6 : Nat) : Int) = 6 from rfl] at e1
  have := s_atake O.sd O.size O.b (by rw [hm]; omega) 0 2
  rw [e1, e2, h1, h2] at this
  exact this.mono fun e w' ⟨B, k, d, x1, _, x3, x4⟩ => ⟨B, k, d, x1, x3, x4⟩
theorem same_eq (A B : Option Addr) (n m c d : Nat) (l : List UInt8) (w : World) (ha : RB w A n l) (hb : RB w B m l) (hn : n ≤ maxLen) : Calls Try.prog 16 #[.slice A n c, .slice B m d] w fun e w' => e = .returned (.bool true) ∧ ∃ q, w' = w.drewN q := by
  have := same_any A B n m c d l l w ha hb hn
  rw [decide_eq_true rfl] at this
  exact this
end
end Go.Proofs.Ytalmdccgpigppaa
namespace Go.Proofs.Ytalmdccgpigppaa.slotsTurn
open Go.ChangeShapes Go.WideShapes Go.ChangeAt Go.RowKit
--FRAME tompionlaw10 SlotsTurn slotsTurn walk raw:[][]uint8:args_llC:.slice‹_›none‹_›0‹_›0
theorem own : ownKnob Try.prog.godebug = none := by kernel_rfl
theorem laidOut : laidOutB Try.prog = true := by kernel_rfl

--ENDFRAME
end Go.Proofs.Ytalmdccgpigppaa.slotsTurn
