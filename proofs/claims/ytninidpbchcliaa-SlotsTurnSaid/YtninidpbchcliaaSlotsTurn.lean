/- SlotsTurn: the slots are taken in turn. -/
import Derived.Test.YtninidpbchcliaaPlainTurn
import Derived.Test.YtninidpbchcliaaSlotC
import Derived.IntWalk
namespace Go.Proofs.Ytninidpbchcliaa
open Go.RowKit Go.WideShapes Go.ChangeShapes Go.Deep Go.Joins
set_option linter.unusedVariables false
set_option linter.unusedSimpArgs false
/-- Slices of slices of bytes, with what room they have. -/
def LsRdC (w : World) (B : Option Addr) (N : Nat) (Ls : List (List UInt8)) : Prop := Ls.length = N ∧ ∃ hs : List SlV, Rd slV w B N hs ∧ ∀ (k : Nat) (h : SlV) (L : List UInt8), hs[k]? = some h → Ls[k]? = some L → RB w h.a h.n L ∧ h.n ≤ h.c ∧ h.c ≤ maxLen
section
variable {H : Type} {enc : TypeId × Value → H} {P : Program} {w : World} {base b0 : Nat} {held : Bool} {r : Reach} {v : Value} {d : DataW H} {ps : List MemPlace}
theorem args_listsC {t e b : TypeId} (ht : P.underlying t = some (.slice e)) (he : P.underlying e = some (.slice b)) (hb : P.underlying b = some (.int .u8)) (hcb : P.cellsOf b = 1) (hce : P.cellsOf e = 1)
    (hval : Value.okWide P w r b0 t v) (hd : DataW.Trod enc P w base (fun _ => true) held t v d ps) :
    ∃ A n c l, v = .slice A n c ∧ LsRdC w A n l ∧ n ≤ c ∧ c ≤ maxLen := by
  obtain ⟨a0, len, cap, rfl⟩ := okWide_slice ht hval
  obtain ⟨fuel, hf⟩ := hd
  rcases open_slice1 ht hce hf with ⟨hcs, _⟩ | ⟨x, l, c, m, nf, V, D, Pl, hcs, _, hl, hm, hmm, _, hat⟩
  · simp [Value.cells] at hcs
    obtain ⟨rfl, rfl, rfl⟩ := hcs
    exact ⟨none, 0, 0, [], rfl, ⟨rfl, [], Rd.nil _ _ _, fun k h L h1 => by simp at h1⟩, Nat.le_refl _, by unfold maxLen; omega⟩
  · simp [Value.cells] at hcs
    obtain ⟨rfl, rfl, rfl⟩ := hcs
    simp only [if_true] at hmm
    have hx : ∀ i, i < len → ∃ q : SlV × List UInt8, V i = slV q.1 ∧ RB w q.1.a q.1.n q.2 ∧ q.1.n ≤ q.1.c ∧ q.1.c ≤ maxLen := by
      intro i hi
      obtain ⟨_, htr⟩ := hat i (by omega)
      obtain ⟨B, k, c', L, e1, r1, k1, m1⟩ := trod_bytes he hb hcb htr
      exact ⟨(⟨B, k, c'⟩, L), e1, r1, k1, m1⟩
    obtain ⟨l, hl', hp⟩ := list_of hx
    refine ⟨some x, len, cap, l.map (·.2), rfl, ⟨by simpa using hl', l.map (·.1), ⟨by simpa using hl', fun h0 => ?_⟩, fun k h L h1 h2 => ?_⟩, hl, hm⟩
    · obtain ⟨c0, _⟩ := hat 0 (by omega)
      have hs : x.spot = none := spot_none (a := x) (by simpa [Addr.add] using c0)
      obtain ⟨bb, o, s⟩ := x
      simp only at hs
      subst hs
      have hadd : ∀ q, (⟨bb, o, none⟩ : Addr).add q = ⟨bb, o + q, none⟩ := fun q => by unfold Addr.add; split <;> simp_all
      refine ⟨bb, o, rfl, World.block_lt_of_cell? w ⟨bb, o, none⟩ (by simpa [Addr.add] using c0), fun i hi => ?_⟩
      obtain ⟨ci, _⟩ := hat i (by omega)
      rw [hadd] at ci
      have hil : i < l.length := by omega
      obtain ⟨e1, _⟩ := hp i _ (List.getElem?_eq_getElem hil)
      rw [ci, e1]
      show _ = some ((((l.map (·.1)).map slV)).getD i undef)
      rw [List.getD_eq_getElem?_getD, List.getElem?_map, List.getElem?_map, List.getElem?_eq_getElem hil]; rfl
    · rw [List.getElem?_map] at h1 h2
      cases hk : l[k]? with
      | none => rw [hk] at h1; cases h1
      | some q =>
        rw [hk] at h1 h2
        simp only [Option.map_some, Option.some.injEq] at h1 h2
        subst h1 h2
        exact (hp k q hk).2
set_option maxRecDepth 100000 in
theorem args_llC (hval : Value.okWide Try.prog w r b0 61 v) (hd : DataW.Trod enc Try.prog w base (fun _ => true) held 61 v d ps) : ∃ A n c l, v = .slice A n c ∧ LsRdC w A n l ∧ n ≤ c ∧ c ≤ maxLen :=
  args_listsC Try.underlying61 Try.underlying23 Try.underlying5 (by kernel_rfl) (by kernel_rfl) hval hd
end
section
variable {w w' : World} {B : Option Addr} {N : Nat} {Ls : List (List UInt8)}
theorem LsRdC.below {B0 : Nat} (h : LsRdC w B N Ls) (hb : Below B0 w w') (hB : w.heap.size ≤ B0) : LsRdC w' B N Ls := by
  obtain ⟨hl, hs, hr, hk⟩ := h
  exact ⟨hl, hs, hr.below hb hB, fun k h L q1 q2 => ⟨(hk k h L q1 q2).1.below hb hB, (hk k h L q1 q2).2⟩⟩
theorem LsRdC.at_ (h : LsRdC w B N Ls) {k : Nat} (hk : k < N) : ∃ b o A n c L, B = some ⟨b, o, none⟩ ∧ b < w.heap.size ∧ w.cell? ⟨b, o + k, none⟩ = some (.slice A n c) ∧ Ls[k]? = some L ∧ RB w A n L ∧ n ≤ c ∧ c ≤ maxLen := by
  obtain ⟨hl, hs, hr, hq⟩ := h
  obtain ⟨b, o, hB, hb, hc⟩ := hr.2.at_ hk
  have h1 : k < hs.length := by rw [hr.1]; exact hk
  have h2 : k < Ls.length := by omega
  obtain ⟨e1, e2, e3⟩ := hq k hs[k] Ls[k] (List.getElem?_eq_getElem h1) (List.getElem?_eq_getElem h2)
  refine ⟨b, o, hs[k].a, hs[k].n, hs[k].c, Ls[k], hB, hb, ?_, List.getElem?_eq_getElem h2, e1, e2, e3⟩
  rw [hc, getD_map hs k h1]
  rfl
end
theorem openV_seal {n : Nat} {L : List UInt8} (hn : n < 9223372036854775808) (hL : L.length ≤ 113) : openV (sealL 2 n L) 2 = ((n : Int), L, 0) := by
  obtain ⟨h1, h2, h3⟩ := opens_seal (kind := 2) (n := n) (load := L) (by omega) (by omega) hn hL
  have e : (2 : Int).toNat = 2 := rfl
  rw [e] at h1 h2 h3
  unfold openV
  rw [if_pos h1, h2, h3]
  unfold sg
  rw [if_pos hn]
theorem calm_take {D : DiskV} (h : Calm D) {f : Nat} (hf : f + 6 ≤ D.many) : aTakeV D f 6 0 2 = openV (secOf D.now (f : Int)) 2 ∧ (aReadV D f 6 0).1 = readV' D := by
  have hr : aReadV D f 6 0 = (readV' D, secOf D.now (f : Int), 0) := by
    have := onRead (D := D) (f := f) (m := 6) (k := 0) h.off hf (by omega)
    rw [Nat.add_zero] at this
    exact this
  unfold aTakeV
  rw [hr]
  exact ⟨by rw [if_neg (by simp)], rfl⟩
/-- What holds behind i saves. -/
structure Turn (D : DiskV) (s : SlV3) (i : Nat) : Prop where
  calm : Calm D
  many : D.many = 12
  waits : D.waits = []
  num : s.number = (i : Int)
  now : s.now = if i = 0 then 2 else (i - 1) % 2
  newest : 0 < i → (openV (secOf D.now ((6 * ((i - 1) % 2) : Nat) : Int)) 2).1 = (i : Int) ∧ (openV (secOf D.now ((6 * ((i - 1) % 2) : Nat) : Int)) 2).2.2 = 0
  older : 1 < i → (openV (secOf D.now ((6 * (i % 2) : Nat) : Int)) 2).1 = ((i - 1 : Nat) : Int) ∧ (openV (secOf D.now ((6 * (i % 2) : Nat) : Int)) 2).2.2 = 0
  blank : i ≤ 1 → (openV (secOf D.now (6 : Int)) 2).2.2 = 53
theorem Turn.read {D : DiskV} {s : SlV3} {i : Nat} (h : Turn D s i) : Turn (readV' D) s i := ⟨h.calm.ops _, h.many, h.waits, h.num, h.now, h.newest, h.older, h.blank⟩
theorem Turn.save {D : DiskV} {s : SlV3} {i : Nat} (h : Turn D s i) (hi : i < 12) {L : List UInt8} (hL : L.length ≤ 512) : (saveSV D 0 6 6 6 s L).2.2 = 0 ∧ Turn (saveSV D 0 6 6 6 s L).1 (saveSV D 0 6 6 6 s L).2.1 (i + 1) ∧ (saveSV D 0 6 6 6 s L).2.1.load = L := by
  have hnow := h.now
  have hf : (if s.now = 0 then 6 else 0) = 6 * (i % 2) := by
    rw [hnow]
    by_cases h0 : i = 0
    · subst h0; rfl
    · rw [if_neg h0]
      by_cases h1 : (i - 1) % 2 = 0
      · rw [if_pos h1]; omega
      · rw [if_neg h1]; omega
  have ho : (if s.now = 0 then 1 else 0) = i % 2 := by
    rw [hnow]
    by_cases h0 : i = 0
    · subst h0; rfl
    · rw [if_neg h0]
      by_cases h1 : (i - 1) % 2 = 0
      · rw [if_pos h1]; omega
      · rw [if_neg h1]; omega
  have hm6 : (if s.now = 0 then 6 else 6) = 6 := by split <;> rfl
  have hfm : 6 * (i % 2) + 6 ≤ D.many := by rw [h.many]; omega
  obtain ⟨a1, a2, a3, a4, a5, a6⟩ := calm_save h.calm hfm (by omega) (by rw [h.waits]; simp) (number := i + 1) (by omega) hL
  have e : saveSV D 0 6 6 6 s L = ((saveA D (6 * (i % 2)) 6 ((i + 1 : Nat) : Int) L).1, ⟨i % 2, ((i + 1 : Nat) : Int), L⟩, 0) := by
    unfold saveSV
    rw [if_neg (by rw [h.num]; omega), hf, ho, hm6, h.num, show (i : Int) + 1 = ((i + 1 : Nat) : Int) by omega, if_neg (by rw [a1]; simp)]
  rw [e]
  have hop := openV_seal (n := i + 1) (L := headL L) (by omega) (by rw [headL_len]; omega)
  refine ⟨rfl, ⟨a2, a3.trans h.many, a4, rfl, ?_, fun _ => ?_, fun h1 => ?_, fun h1 => ?_⟩, rfl⟩
  · show i % 2 = if i + 1 = 0 then 2 else (i + 1 - 1) % 2
    rw [if_neg (by omega), Nat.add_sub_cancel]
  · show (openV (secOf (saveA D (6 * (i % 2)) 6 ((i + 1 : Nat) : Int) L).1.now ((6 * ((i + 1 - 1) % 2) : Nat) : Int)) 2).1 = _ ∧ (openV (secOf (saveA D (6 * (i % 2)) 6 ((i + 1 : Nat) : Int) L).1.now ((6 * ((i + 1 - 1) % 2) : Nat) : Int)) 2).2.2 = 0
    rw [Nat.add_sub_cancel, a5, hop]
    exact ⟨rfl, rfl⟩
  · show (openV (secOf (saveA D (6 * (i % 2)) 6 ((i + 1 : Nat) : Int) L).1.now ((6 * ((i + 1) % 2) : Nat) : Int)) 2).1 = _ ∧ (openV (secOf (saveA D (6 * (i % 2)) 6 ((i + 1 : Nat) : Int) L).1.now ((6 * ((i + 1) % 2) : Nat) : Int)) 2).2.2 = 0
    have hq := h.newest (by omega)
    rw [a6 (6 * ((i + 1) % 2)) (by rw [h.many]; omega) (by omega), show (i + 1) % 2 = (i - 1) % 2 by omega, Nat.add_sub_cancel]
    exact hq
  · show (openV (secOf (saveA D (6 * (i % 2)) 6 ((i + 1 : Nat) : Int) L).1.now (6 : Int)) 2).2.2 = 53
    have i0 : i = 0 := by omega
    subst i0
    have hq := h.blank (by omega)
    have hs := a6 6 (by rw [h.many]; omega) (by omega)
    rw [show ((6 : Nat) : Int) = 6 from rfl] at hs
    rw [hs]
    exact hq
set_option maxRecDepth 1000000 in
theorem o10_read : O10a.1 = readV' (readV' D10a) := by kernel_rfl
theorem o10_slots : O10a.2.1.number = 0 ∧ O10a.2.1.now = 2 ∧ (openV (secOf D10a.now (6 : Int)) 2).2.2 = 53 ∧ D10a.many = 12 ∧ D10a.waits.length = 0 := by decide +kernel
theorem Turn.first : Turn O10a.1 O10a.2.1 0 := by
  have hc : Calm D10a := by
    have := calm_new (many := 12) (by omega) (by omega)
    show Calm (loadD 12 12 [] 0)
    rw [loadD_zero]
    exact this
  obtain ⟨h1, h2, h3, h4, h5⟩ := o10_slots
  rw [o10_read]
  generalize O10a = o at *
  generalize D10a = d at *
  exact ⟨(hc.ops _).ops _, h4, List.eq_nil_of_length_eq_zero h5, h1, h2, fun e => absurd e (by omega), fun e => absurd e (by omega), fun _ => h3⟩
section
variable {w0 W : World} {base ga gb : Nat} {p : DiskP} {D : DiskV}
theorem take_l (O : A10 w0 W base p ga gb D) (hc : Calm D) (hm : D.many = 12) {N E : Int} (h1 : (openV (secOf D.now (0 : Int)) 2).1 = N) (h2 : (openV (secOf D.now (0 : Int)) 2).2.2 = E) : Calls Try.prog 44 #[.pointer (some ⟨ga, 0, none⟩), .int .i64 0, .int .i64 2] W fun e w' => ∃ B k d, e = .returned (.tuple #[.int .i64 N, .slice B k d, .int .i64 E]) ∧ DiskS w' base p (readV' D) ∧ Step mutD base p W w' := by
  obtain ⟨e1, e2⟩ := calm_take hc (f := 0) (by rw [hm]; omega)
  rw [show ((0 : Nat) : Int) = 0 from rfl] at e1
  have := s_atake O.sd O.size O.a (by rw [hm]; omega) 0 2
  rw [e1, e2, h1, h2] at this
  exact this.mono fun e w' ⟨B, k, d, x1, _, x3, x4⟩ => ⟨B, k, d, x1, x3, x4⟩
theorem take_r (O : A10 w0 W base p ga gb D) (hc : Calm D) (hm : D.many = 12) {N E : Int} (h1 : (openV (secOf D.now (6 : Int)) 2).1 = N) (h2 : (openV (secOf D.now (6 : Int)) 2).2.2 = E) : Calls Try.prog 44 #[.pointer (some ⟨gb, 0, none⟩), .int .i64 0, .int .i64 2] W fun e w' => ∃ B k d, e = .returned (.tuple #[.int .i64 N, .slice B k d, .int .i64 E]) ∧ DiskS w' base p (readV' D) ∧ Step mutD base p W w' := by
  obtain ⟨e1, e2⟩ := calm_take hc (f := 6) (by rw [hm]; omega)
  rw [show ((6 : Nat) : Int) = 6 from rfl] at e1
  have := s_atake O.sd O.size O.b (by rw [hm]; omega) 0 2
  rw [e1, e2, h1, h2] at this
  exact this.mono fun e w' ⟨B, k, d, x1, _, x3, x4⟩ => ⟨B, k, d, x1, x3, x4⟩
theorem same_eq (A B : Option Addr) (n m c d : Nat) (l : List UInt8) (w : World) (ha : RB w A n l) (hb : RB w B m l) (hn : n ≤ maxLen) : Calls Try.prog 24 #[.slice A n c, .slice B m d] w fun e w' => e = .returned (.bool true) ∧ ∃ q, w' = w.drewN q := by
  have := same_any A B n m c d l l w ha hb hn
  rw [decide_eq_true rfl] at this
  exact this
end
end Go.Proofs.Ytninidpbchcliaa
namespace Go.Proofs.Ytninidpbchcliaa.slotsTurn
open Go.ChangeShapes Go.WideShapes Go.ChangeAt Go.RowKit
theorem s_waits {w : World} {base : Nat} {p : DiskP} {D : DiskV} (h : DiskS w base p D) : Calls Try.prog 23 #[.pointer (some ⟨p.d, 0, none⟩)] w fun e w' => e = .returned (.int .i64 (D.waits.length : Nat)) ∧ w = w' := by
  obtain ⟨A, c, h⟩ := h; exact waits_any h
theorem walk_long (A0 : Option Addr) (n c0 : Nat) (w : World) (hn : n ≤ maxLen) (h : 12 < n) : Calls Try.prog 12 #[.slice A0 n c0] w fun e w' => e = .returned (.bool true) ∧ Below w.heap.size w w' := by
  unfold maxLen at hn
  go_enter Try.func12, Try.ntmps12
  go_wp2_with (first
    | ((go_at_call 60; (with_reducible refine (awake10 _).mono ?_); rintro e w1 ⟨rfl, hb1⟩); have B1 := Lib.hid hb1; clear hb1)
    | fail "no arm")
  go_ret
  exact ⟨rfl, B1.out⟩
set_option maxRecDepth 100000 in
set_option maxHeartbeats 20000000 in
theorem walk_main (A0 : Option Addr) (n c0 : Nat) (ls : List (List UInt8)) (w : World) (h1 : LsRdC w A0 n ls) (hn : n ≤ 12) : Calls Try.prog 12 #[.slice A0 n c0] w fun e w' => e = .returned (.bool true) ∧ Below w.heap.size w w' := by
  have hmd := fun w => (show Calls Try.prog 61 #[.slice none 0 0, .int .i64 12] w (Made10 w D10a) from made10_ok none 0 0 [] 12 w ⟨rfl, Row.nil _ _ _⟩ (by omega) (by omega) (by omega) (by omega) (by show ((0 : Nat) : Int) ≤ 12; omega))
  obtain ⟨f1, _⟩ := d10_facts
  have cop := fun {w0 W : World} {base ga gb : Nat} {p : DiskP} (O : A10 w0 W base p ga gb D10a) => (sopen_any O.sd O.size O.a O.b (by omega) (by omega) (show 0 + 6 ≤ 12 by omega) (show 6 + 6 ≤ 12 by omega)).mono fun e w' (hp : SOPost W base p ga gb O10a e w') => (show ∃ g, e = .returned (.tuple #[.pointer (some ⟨g, 0, none⟩), .int .i64 0]) ∧ W.heap.size ≤ g ∧ SlotsAt w' base g ga gb O10a.2.1 ∧ DiskS w' base p O10a.1 ∧ Step mutD base p W w' from by
    obtain ⟨P, e1, _, e3, e4, e5⟩ := hp
    obtain ⟨g, rfl, q2, q3⟩ := e3 f1
    rw [f1] at e1
    exact ⟨g, e1, q2, q3, e4, e5⟩)
  have T0 := Lib.hid Turn.first
  generalize O10a = o1 at *
  generalize D10a = d0 at *
  have hnI : (n : Int) ≤ 12 := by omega
  clear f1
  go_enter Try.func12, Try.ntmps12
  go_wp2_with (first
    | ((go_at_call 60; (with_reducible refine (awake10 _).mono ?_); rintro e w1 ⟨rfl, hb1⟩); have B1 := Lib.hid hb1; have RD := Lib.hid (h1.below hb1 (Nat.le_refl _)); clear hb1)
    | fail "no arm")
  go_loopw [4, 30] (fun _ i wr => ∃ k : Nat, k ≤ n ∧ i = .int .i64 (k : Nat) ∧ Hid (∀ (j : Nat) (L : List UInt8), j < k → ls[j]? = some L → L.length ≤ 512) ∧ w1 = wr) (fun _ i _ => n - (intOf i).toNat)
  case atStart => exact ⟨0, by omega, rfl, Lib.hid (fun j L hj => absurd hj (by omega)), rfl⟩
  case round =>
    obtain ⟨k, hk, rfl, hsm, rfl⟩ := hrel
    by_cases hlt : k < n
    · obtain ⟨b, o, A, nn, c, L, hA0, hbl, hcell, hL, hrb, hnc, hcm⟩ := (show LsRdC w1 A0 n ls from RD.out).at_ hlt
      have hll : L.length = nn := hrb.1
      have HL := Lib.hid hL
      have HLL := Lib.hid hll
      have hkI : (k : Int) < n := by omega
      unfold maxLen at hcm
      clear hrb hL hll
      subst hA0
      by_cases hbig : 512 < nn
      · go_wp2
        try rw [Exit.noGoto_ret]
        go_ret
        exact ⟨rfl, B1.out⟩
      · go_wp2
        go_roundw
        case rel =>
          have HS := Lib.hid (show ∀ (j : Nat) (L' : List UInt8), j < k + 1 → ls[j]? = some L' → L'.length ≤ 512 from fun j L' hj hq => by
            rcases Nat.lt_or_ge j k with q1 | q1
            · exact hsm.out j L' q1 hq
            · have e9 : j = k := by omega
              subst e9
              rw [HL.out] at hq
              injection hq with hq
              subst hq
              rw [HLL.out]; omega)
          first
            | exact ⟨k + 1, by omega, by go_num, HS, rfl⟩
            | exact ⟨k + 1, by omega, by go_num, HS, trivial⟩
            | exact ⟨k + 1, by omega, by go_num, HS⟩
            | ((repeat apply Exists.intro); exact ⟨⟨k + 1, by omega, by go_num, HS, rfl⟩, rfl⟩)
        case measure => simp [intOf]; omega
    · have hkn : n = k := by omega
      subst hkn
      go_wp2_with (first
        | ((go_at_call 61; (with_reducible refine (hmd _).mono ?_); rintro e w2 ⟨p, ga, gb, rfl, o2⟩); have O2 := Lib.hid o2; clear o2)
        | ((go_at_call 62; (with_reducible refine (cop O2.out).mono ?_); rintro e w3 ⟨g, rfl, hg3, hs3, hd3, st3⟩); have O3 := Lib.hid (O2.out.step st3 hd3); have SA3 := Lib.hid hs3; have hgg : w1.heap.size ≤ g := (by have := O2.out.size; omega); clear hs3 hd3 st3)
        | fail "no arm")
      go_loopw [10, 53] (fun _ i wr => ∃ (k : Nat) (D : DiskV) (s : SlV3), k ≤ n ∧ i = .int .i64 (k : Nat) ∧ Hid (Turn D s k) ∧ A10 w1 wr w1.heap.size p ga gb D ∧ SlotsAt wr w1.heap.size g ga gb s) (fun _ i _ => n - (intOf i).toNat)
      case atStart => exact ⟨0, o1.1, o1.2.1, by omega, rfl, T0, O3.out, SA3.out⟩
      case round =>
        obtain ⟨k, D, s, hk, rfl, hT, hO, hS⟩ := hrel
        by_cases hlt : k < n
        · obtain ⟨b, o, A, nn, c, L, hA0, hbl0, hcell0, hL, hrb, hnc, hcm⟩ := (show LsRdC w1 A0 n ls from RD.out).at_ hlt
          have hcell : wr.cell? ⟨b, o + k, none⟩ = some (.slice A nn c) := (hO.bel.cell (p := ⟨b, o + k, none⟩) hbl0).trans hcell0
          have hbl : b < wr.heap.size := by have := hO.size; omega
          have hll : L.length ≤ 512 := hsm.out k L hlt hL
          have BA := BytesAt.old (base := w1.heap.size) (h := ⟨A, nn, c⟩) hrb (by show nn ≤ maxLen; omega) hO.bel (Nat.le_refl _)
          have csv := save_any (fl := 0) (ml := 6) (fr := 6) (mr := 6) hS hO.sd hO.size hgg hO.a hO.b (by omega) (by omega) (by rw [hT.out.many]; omega) (by rw [hT.out.many]; omega) BA hnc hcm (by rw [hT.out.num]; omega) (by rw [hT.out.waits]; simp)
          obtain ⟨r1, r2, r3⟩ := hT.out.save (by omega) hll
          have HRB := Lib.hid hrb
          generalize saveSV D 0 6 6 6 s L = R at *
          obtain ⟨D', s', z⟩ := R
          simp only at csv r1 r2 r3
          subst r1
          have hnow : s'.now ≠ 2 := by have := r2.now; rw [if_neg (by omega)] at this; omega
          have hld : loadSV s' = (L, (k : Int) + 1, true) := by
            unfold loadSV
            rw [if_neg hnow, r3, r2.num]
            rfl
          have cld := fun {W : World} (h : SlotsAt W w1.heap.size g ga gb s') => (show Calls Try.prog 64 #[.pointer (some ⟨g, 0, none⟩)] W fun e w' => ∃ B n c, e = .returned (.tuple #[.slice B n c, .int .i64 ((k : Int) + 1), .bool true]) ∧ OB w' W.heap.size 5 B n c L ∧ Below W.heap.size W w' from by have := load_any h; rw [hld] at this; exact this)
          have HO := Lib.hid hO
          have T2 := Lib.hid r2
          have hkI : (k : Int) < n := by omega
          have hcmx : nn ≤ maxLen := by omega
          have HCM := Lib.hid hcmx
          unfold maxLen at hcm
          clear hO hS BA hrb hcell0 hL hT r3 hld hnow hcmx
          subst hA0
          by_cases hp : k % 2 = 1
          · have hn := r2.newest (by omega)
            have ho := r2.older (by omega)
            rw [show 6 * ((k + 1 - 1) % 2) = 6 by omega, show ((6 : Nat) : Int) = 6 from rfl, show ((k + 1 : Nat) : Int) = (k : Int) + 1 by omega] at hn
            rw [show 6 * ((k + 1) % 2) = 0 by omega, show ((0 : Nat) : Int) = 0 from rfl, Nat.add_sub_cancel] at ho
            have tk1 := fun {W : World} (O : A10 w1 W w1.heap.size p ga gb D') => take_r O r2.calm r2.many hn.1 hn.2
            have tk2 := fun {W : World} (O : A10 w1 W w1.heap.size p ga gb (readV' D')) => take_l O r2.read.calm r2.read.many ho.1 ho.2
            have ht1 : (k : Int).tmod 2 = 1 := by rw [Int.tmod_eq_emod_of_nonneg (by omega)]; omega
            have ht2 : (k : Int) % 2 = 1 := by omega
            have hk0 : ((k : Int) == 0) = false := by rw [beq_eq_false_iff_ne]; omega
            have hk1 : (0 : Int) < (k : Int) := by omega
            clear hn ho r2 hp
            go_wp2_with (first
              | ((go_at_call 63; (with_reducible refine (csv).mono ?_); rintro e w4 ⟨rfl, hd4, hs4, st4⟩); have O4 := Lib.hid (HO.out.stepS st4 hd4); have SA4 := Lib.hid hs4; clear hd4 hs4 st4)
              | ((go_at_call 44; (with_reducible refine (tk1 O4.out).mono ?_); rintro e w5 ⟨B5, k5, d5, rfl, hd5, st5⟩); have O5 := Lib.hid (O4.out.step st5 hd5); have SA5 := Lib.hid (SA4.out.step O4.out.sd st5); clear hd5 st5)
              | ((go_at_call 64; (with_reducible refine (cld SA5.out).mono ?_); rintro e w6 ⟨B6, n6, c6, rfl, ob6, b6⟩); have O6 := Lib.hid (O5.out.below b6); have SA6 := Lib.hid (SA5.out.below b6); have hsame := same_eq B6 A n6 nn c6 c L w6 ob6.rd.rb (HRB.out.below O6.out.bel (Nat.le_refl _)) (by have := ob6.cap; omega); clear ob6 b6)
              | ((go_at_call 24; (with_reducible refine (hsame).mono ?_); rintro e w7 ⟨rfl, q7, rfl⟩); have O7 := Lib.hid (O6.out.below (below_drewN (Below.refl w6.heap.size w6) q7)); have SA7 := Lib.hid (SA6.out.below (below_drewN (Below.refl w6.heap.size w6) q7)))
              | ((go_at_call 44; (with_reducible refine (tk2 O7.out).mono ?_); rintro e w8 ⟨B8, k8, d8, rfl, hd8, st8⟩); have O8 := Lib.hid (O7.out.step st8 hd8); have SA8 := Lib.hid (SA7.out.step O7.out.sd st8); clear hd8 st8)
              | fail "no arm")
            go_roundw
            case rel => first
              | exact ⟨k + 1, _, s', by omega, by go_num, Lib.hid T2.out.read.read, O8.out, SA8.out⟩
              | ((repeat apply Exists.intro); exact ⟨⟨k + 1, _, s', by omega, by go_num, Lib.hid T2.out.read.read, O8.out, SA8.out⟩, rfl⟩)
            case measure => simp [intOf]; omega
          · by_cases h0 : k = 0
            · have hn := r2.newest (by omega)
              have ho := r2.blank (by omega)
              rw [show 6 * ((k + 1 - 1) % 2) = 0 by omega, show ((0 : Nat) : Int) = 0 from rfl, show ((k + 1 : Nat) : Int) = (k : Int) + 1 by omega] at hn
              have tk1 := fun {W : World} (O : A10 w1 W w1.heap.size p ga gb D') => take_l O r2.calm r2.many hn.1 hn.2
              have tk2 := fun {W : World} (O : A10 w1 W w1.heap.size p ga gb (readV' D')) => take_r O r2.read.calm r2.read.many rfl ho
              have ht1 : (k : Int).tmod 2 = 0 := by rw [h0]; rfl
              have ht2 : (k : Int) % 2 = 0 := by omega
              have hk0 : ((k : Int) == 0) = true := by rw [h0]; rfl
              have hk1 : ¬ ((0 : Int) < (k : Int)) := by omega
              generalize (openV (secOf (readV' D').now 6) 2).1 = nq at *
              clear hn ho r2 hp h0
              go_wp2_with (first
                | ((go_at_call 63; (with_reducible refine (csv).mono ?_); rintro e w4 ⟨rfl, hd4, hs4, st4⟩); have O4 := Lib.hid (HO.out.stepS st4 hd4); have SA4 := Lib.hid hs4; clear hd4 hs4 st4)
                | ((go_at_call 44; (with_reducible refine (tk1 O4.out).mono ?_); rintro e w5 ⟨B5, k5, d5, rfl, hd5, st5⟩); have O5 := Lib.hid (O4.out.step st5 hd5); have SA5 := Lib.hid (SA4.out.step O4.out.sd st5); clear hd5 st5)
                | ((go_at_call 64; (with_reducible refine (cld SA5.out).mono ?_); rintro e w6 ⟨B6, n6, c6, rfl, ob6, b6⟩); have O6 := Lib.hid (O5.out.below b6); have SA6 := Lib.hid (SA5.out.below b6); have hsame := same_eq B6 A n6 nn c6 c L w6 ob6.rd.rb (HRB.out.below O6.out.bel (Nat.le_refl _)) (by have := ob6.cap; omega); clear ob6 b6)
                | ((go_at_call 24; (with_reducible refine (hsame).mono ?_); rintro e w7 ⟨rfl, q7, rfl⟩); have O7 := Lib.hid (O6.out.below (below_drewN (Below.refl w6.heap.size w6) q7)); have SA7 := Lib.hid (SA6.out.below (below_drewN (Below.refl w6.heap.size w6) q7)))
                | ((go_at_call 44; (with_reducible refine (tk2 O7.out).mono ?_); rintro e w8 ⟨B8, k8, d8, rfl, hd8, st8⟩); have O8 := Lib.hid (O7.out.step st8 hd8); have SA8 := Lib.hid (SA7.out.step O7.out.sd st8); clear hd8 st8)
                | fail "no arm")
              go_roundw
              case rel => first
                | exact ⟨k + 1, _, s', by omega, by go_num, Lib.hid T2.out.read.read, O8.out, SA8.out⟩
                | ((repeat apply Exists.intro); exact ⟨⟨k + 1, _, s', by omega, by go_num, Lib.hid T2.out.read.read, O8.out, SA8.out⟩, rfl⟩)
              case measure => simp [intOf]; omega
            · have hn := r2.newest (by omega)
              have ho := r2.older (by omega)
              rw [show 6 * ((k + 1 - 1) % 2) = 0 by omega, show ((0 : Nat) : Int) = 0 from rfl, show ((k + 1 : Nat) : Int) = (k : Int) + 1 by omega] at hn
              rw [show 6 * ((k + 1) % 2) = 6 by omega, show ((6 : Nat) : Int) = 6 from rfl, Nat.add_sub_cancel] at ho
              have tk1 := fun {W : World} (O : A10 w1 W w1.heap.size p ga gb D') => take_l O r2.calm r2.many hn.1 hn.2
              have tk2 := fun {W : World} (O : A10 w1 W w1.heap.size p ga gb (readV' D')) => take_r O r2.read.calm r2.read.many ho.1 ho.2
              have ht1 : (k : Int).tmod 2 = 0 := by rw [Int.tmod_eq_emod_of_nonneg (by omega)]; omega
              have ht2 : (k : Int) % 2 = 0 := by omega
              have hk0 : ((k : Int) == 0) = false := by rw [beq_eq_false_iff_ne]; omega
              have hk1 : (0 : Int) < (k : Int) := by omega
              clear hn ho r2 hp h0
              go_wp2_with (first
                | ((go_at_call 63; (with_reducible refine (csv).mono ?_); rintro e w4 ⟨rfl, hd4, hs4, st4⟩); have O4 := Lib.hid (HO.out.stepS st4 hd4); have SA4 := Lib.hid hs4; clear hd4 hs4 st4)
                | ((go_at_call 44; (with_reducible refine (tk1 O4.out).mono ?_); rintro e w5 ⟨B5, k5, d5, rfl, hd5, st5⟩); have O5 := Lib.hid (O4.out.step st5 hd5); have SA5 := Lib.hid (SA4.out.step O4.out.sd st5); clear hd5 st5)
                | ((go_at_call 64; (with_reducible refine (cld SA5.out).mono ?_); rintro e w6 ⟨B6, n6, c6, rfl, ob6, b6⟩); have O6 := Lib.hid (O5.out.below b6); have SA6 := Lib.hid (SA5.out.below b6); have hsame := same_eq B6 A n6 nn c6 c L w6 ob6.rd.rb (HRB.out.below O6.out.bel (Nat.le_refl _)) (by have := ob6.cap; omega); clear ob6 b6)
                | ((go_at_call 24; (with_reducible refine (hsame).mono ?_); rintro e w7 ⟨rfl, q7, rfl⟩); have O7 := Lib.hid (O6.out.below (below_drewN (Below.refl w6.heap.size w6) q7)); have SA7 := Lib.hid (SA6.out.below (below_drewN (Below.refl w6.heap.size w6) q7)))
                | ((go_at_call 44; (with_reducible refine (tk2 O7.out).mono ?_); rintro e w8 ⟨B8, k8, d8, rfl, hd8, st8⟩); have O8 := Lib.hid (O7.out.step st8 hd8); have SA8 := Lib.hid (SA7.out.step O7.out.sd st8); clear hd8 st8)
                | fail "no arm")
              go_roundw
              case rel => first
                | exact ⟨k + 1, _, s', by omega, by go_num, Lib.hid T2.out.read.read, O8.out, SA8.out⟩
                | ((repeat apply Exists.intro); exact ⟨⟨k + 1, _, s', by omega, by go_num, Lib.hid T2.out.read.read, O8.out, SA8.out⟩, rfl⟩)
              case measure => simp [intOf]; omega
        · have cwt := s_waits hO.sd
          rw [hT.out.waits] at cwt
          have cwt2 : Calls Try.prog 23 #[.pointer (some ⟨p.d, 0, none⟩)] wr fun e w' => e = .returned (.int .i64 0) ∧ wr = w' := cwt
          have BE := Lib.hid hO.bel
          clear hO hS cwt
          go_wp2_with (first
            | (go_at_call 23; (with_reducible refine (cwt2).mono ?_); rintro e w9 ⟨rfl, rfl⟩)
            | fail "no arm")
          try rw [Exit.noGoto_ret]
          go_ret
          exact ⟨rfl, B1.out.trans (BE.out.mono B1.out.size)⟩
theorem walk (w : World) (v0 : Value) (x0 : ∃ A n c l, v0 = .slice A n c ∧ LsRdC w A n l ∧ n ≤ c ∧ c ≤ maxLen) : Calls Try.prog 12 #[v0] w fun e w' => e = .returned (.bool true) ∧ Below w.heap.size w w' := by
  obtain ⟨A0, n, c0, ls, rfl, h1, nc, cm⟩ := x0
  by_cases h : 12 < n
  · exact walk_long A0 n c0 w (by omega) h
  · exact walk_main A0 n c0 ls w h1 (by omega)

--FRAME tompionlaw10 SlotsTurn slotsTurn walk raw:[][]uint8:args_llC:.slice‹_›none‹_›0‹_›0
theorem own : ownKnob Try.prog.godebug = none := by kernel_rfl
theorem laidOut : laidOutB Try.prog = true := by kernel_rfl

set_option maxRecDepth 100000 in
theorem lifted (os : Os) (started : os.Started) (H : Type) (enc : TypeId × Value → H) :
    ReturnsInHanded {} Try.checked os 12 .any (Rows.slotsTurnSpec.pre6 enc Try.prog Try.f12 Rows.slotsTurnRow.domain false) (Rows.slotsTurnSpec.post enc Try.prog Try.f12 false true false false) := by
  refine returnsInHanded_of_change (C := Try.checked) own started (by kernel_rfl) Try.func12
    (ChangeSpec.witness6 (enc := enc) (C := Try.checked) false ⟨#[], #[.slice none 0 0], []⟩ 8 (by kernel_rfl) (by kernel_rfl) (by kernel_rfl) (by kernel_rfl)) ?_
  intro W base args ds gs before hval0 hW hcnd _
  have hval : ∀ (j : Nat) t v, Try.f12.params[j]? = some t → args[j]? = some v → Value.okWide Try.prog W .any base t v := hval0
  have hW' := hW
  obtain ⟨p, q, hA0, hV, rfl, hfz, hnd⟩ := hW
  have hA : DataW.TrodAll enc Try.prog W 0 (fun _ => true) true Try.f12.params.toList args.toList ds p := hA0
  rw [Try.params12] at hA hval
  obtain ⟨v0, vs0, d0, ds0, p0, q0, hargs, rfl, rfl, h0, rr0⟩ := trodAll_cons hA
  obtain ⟨rfl, rfl, rfl⟩ := trodAll_nil rr0
  obtain rfl : args = #[v0] := by cases args; simp_all
  obtain ⟨rfl, rfl⟩ := trodVars_none hV
  have k0 := h0
  have lt0 : ∀ x ∈ p0, x.block < W.heap.size := by obtain ⟨m, hm⟩ := k0; exact DataW.trod_lt m _ _ _ hm
  have x0 := args_llC (hval 0 61 v0 rfl rfl) h0
  clear hA0 hval0
  refine (walk W v0 x0).mono fun e W' ⟨he, bel⟩ => ?_
  subst he
  exact ⟨_, rfl, _, _, _, [], _, [], hW', trodAll_mk1 (shut_bool Try.underlying4 _), (trodAll_cons_mk (Below.trod laidOut (by kernel_rfl) (of_decide_eq_true (by kernel_rfl)) k0 bel lt0) trodAll_mk0), rfl, bel.frame _, fun h => by cases h⟩

theorem over : Rows.slotsTurnRow.holds Try.pinned (OpenSpec.ofChange Rows.slotsTurnSpec) :=
  OpenClaim.holds_of_wide 12 Try.f12 rfl rfl rfl rfl rfl rfl rfl ⟨rfl, rfl, rfl, rfl, rfl⟩ rfl rfl rfl rfl rfl (by kernel_rfl) Try.func12 (by kernel_rfl)
    (of_decide_eq_true (by kernel_rfl)) (by unfold Func.isWrapper; first | (rw [if_pos (by decide +kernel)]; kernel_rfl) | (rw [if_neg (by decide +kernel)]; exact ⟨rfl, rfl⟩))
    (fun os started H enc _ => lifted os started H enc)

theorem proved : Rows.SlotsTurnSaid := over
--ENDFRAME
end Go.Proofs.Ytninidpbchcliaa.slotsTurn
