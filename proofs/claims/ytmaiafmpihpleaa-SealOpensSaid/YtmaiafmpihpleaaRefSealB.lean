/- The reference's sealed sectors: Open. -/
import Derived.Test.YtmaiafmpihpleaaRefSealA
namespace Go.Proofs.Ytmaiafmpihpleaa
open Go.RowKit

/-- 's[lo:hi]' of a slice of one-cell elements. -/
theorem run_cut3 {P : Program} {t e : TypeId} {z : Value} {bytes : Nat} (hE : ElemOf P t e z 1 bytes) (g o len cap : Nat) (lo hi : Int) (L m : Nat) (hL : lo = (L : Int)) (hh : hi = ((L + m : Nat) : Int)) (hm : L + m ≤ cap) (hc : cap ≠ L) (W : World) :
    (Instr.slice t (.slice (some ⟨g, o, none⟩) len cap) (some (.int .i64 lo)) (some (.int .i64 hi)) none).run P W = .ok (.slice (some ⟨g, o + L, none⟩) m (cap - L)) W := by
  obtain ⟨ht, ⟨i, hi', _, hs, _⟩, _⟩ := hE
  subst hL hh
  have hadd : (⟨g, o, none⟩ : Addr).add L = ⟨g, o + L, none⟩ := by unfold Addr.add; split <;> simp_all
  simp [Instr.slice, run_underlying ht, Instr.sliceBounds, Instr.sliceBound, sizeOf, typeInfo, hi', hs, asIntOf, hc, hadd]
  rw [if_pos (by omega), if_pos (by omega), show ((L : Int) + (m : Int)).toNat - L = m from by omega]
theorem RB.part {w : World} {g o n : Nat} {l : List UInt8} (h : RB w (some ⟨g, o, none⟩) n l) (L m : Nat) (hm : L + m ≤ n) : RB w (some ⟨g, o + L, none⟩) m ((l.drop L).take m) := by
  refine ⟨by rw [List.length_take, List.length_drop, h.1]; omega, fun h0 => ?_⟩
  obtain ⟨b, o', e, hb, hc⟩ := h.2 (by omega)
  injection e with e
  injection e with e1 e2 _
  subst e1 e2
  refine ⟨_, _, rfl, hb, fun i hi => ?_⟩
  have := hc (L + i) (by omega)
  rw [Nat.add_assoc, this]
  unfold byteAt
  simp [List.getD_eq_getElem?_getD, hi]

def RefOpenEnd (y9 : Nat) (K : List UInt8) (q : Bool) (N : Int) (w : World) (e : Ending) (w' : World) : Prop :=
  (q = false ∧ e = .returned (.tuple #[.int .i64 0, .slice none 0 0, .int .i64 53]) ∧ Below w.heap.size w w') ∨
  (q = true ∧ ∃ A c, e = .returned (.tuple #[.int .i64 N, .slice A y9 c, .int .i64 0]) ∧ RB w' A y9 K ∧ Below w.heap.size w w')
theorem RefOpenEnd.no {y9 : Nat} {K : List UInt8} {N : Int} {w w' : World} (h : Below w.heap.size w w') : RefOpenEnd y9 K false N w (.returned (.tuple #[.int .i64 0, .slice none 0 0, .int .i64 53])) w' := .inl ⟨rfl, rfl, h⟩
theorem RefOpenEnd.yes {y9 c : Nat} {A : Option Addr} {K : List UInt8} {N : Int} {w w' : World} (h : Below w.heap.size w w') (ho : RB w' A y9 K) : RefOpenEnd y9 K true N w (.returned (.tuple #[.int .i64 N, .slice A y9 c, .int .i64 0])) w' := .inr ⟨rfl, A, c, rfl, ho, h⟩

/-- In what order the reference looks. -/
def RefBad (l : List UInt8) (kind : Int) : Prop := (byteAt l 0 : Int) ≠ kind ∨ ((byteAt l 0 : Int) = kind ∧ byteAt l 127 ≠ 215)
theorem refopen_bad (g o c : Nat) (l : List UInt8) (kind : Int) (w : World) (hl : RB w (some ⟨g, o, none⟩) 128 l) (h : RefBad l kind) :
    Calls Try.prog 21 #[.slice (some ⟨g, o, none⟩) 128 c, .int .i64 kind] w fun e w' => e = .returned (.tuple #[.int .i64 0, .slice none 0 0, .int .i64 53]) ∧ w = w' := by
  obtain ⟨_, _, e0, _, c0⟩ := hl.at_ (k := 0) (by omega)
  injection e0 with e0
  injection e0 with e1 e2 _
  subst e1 e2
  rw [Nat.add_zero] at c0
  obtain ⟨_, _, e0, _, c127⟩ := hl.at_ (k := 127) (by omega)
  injection e0 with e0
  injection e0 with e1 e2 _
  subst e1 e2
  have b0 := byteAt_lt l 0
  have b127 := byteAt_lt l 127
  unfold RefBad at h
  generalize byteAt l 0 = y0 at *
  generalize byteAt l 127 = y127 at *
  rcases h with h | ⟨h, h2⟩
  · have t1 : (((y0 : Nat) : Int) != kind) = true := by rw [bne_iff_ne]; exact h
    clear h
    go_enter Try.func21, Try.ntmps21
    go_wp2
    go_ret3
    exact ⟨rfl, rfl⟩
  · have t1 : (((y0 : Nat) : Int) != kind) = false := by rw [h]; simp
    have t2 : (((y127 : Nat) : Int) != 215) = true := by rw [bne_iff_ne]; omega
    clear h h2
    go_enter Try.func21, Try.ntmps21
    go_wp2
    go_ret3
    exact ⟨rfl, rfl⟩

set_option maxRecDepth 100000 in
set_option maxHeartbeats 2000000 in
theorem refopen_main (g o c : Nat) (l : List UInt8) (kind : Int) (w : World) (hl : RB w (some ⟨g, o, none⟩) 128 l) (hc : 128 ≤ c) (h : ¬ RefBad l kind) :
    Calls Try.prog 21 #[.slice (some ⟨g, o, none⟩) 128 c, .int .i64 kind] w (RefOpenEnd (byteAt l 9) (openLoad l) (opens l kind) (sg (openNum l)) w) := by
  obtain ⟨_, _, e0, _, c0⟩ := hl.at_ (k := 0) (by omega)
  injection e0 with e0
  injection e0 with e1 e2 _
  subst e1 e2
  rw [Nat.add_zero] at c0
  obtain ⟨_, _, e0, _, c127⟩ := hl.at_ (k := 127) (by omega)
  injection e0 with e0
  injection e0 with e1 e2 _
  subst e1 e2
  obtain ⟨_, _, e0, hbl, c9⟩ := hl.at_ (k := 9) (by omega)
  injection e0 with e0
  injection e0 with e1 e2 _
  subst e1 e2
  have hl1 : RB w (some ⟨g, o + 1, none⟩) 8 ((l.drop 1).take 8) := hl.part 1 8 (by omega)
  have hl10 : byteAt l 9 ≤ 113 → RB w (some ⟨g, o + 10, none⟩) (byteAt l 9) (openLoad l) := fun h => hl.part 10 (byteAt l 9) (by omega)
  have b0 := byteAt_lt l 0
  have b9 := byteAt_lt l 9
  have b127 := byteAt_lt l 127
  have h0 : (byteAt l 0 : Int) = kind := by unfold RefBad at h; omega
  have h127 : byteAt l 127 = 215 := by unfold RefBad at h; omega
  have t1 : (((byteAt l 0 : Nat) : Int) != kind) = false := by rw [h0]; simp
  have t2 : (((byteAt l 127 : Nat) : Int) != 215) = false := by rw [h127]; rfl
  have hget : ∀ (A : Option Addr) (c : Nat) (w : World), RB w A 8 ((l.drop 1).take 8) → Calls Try.prog 67 #[.slice A 8 c] w fun e w' => e = .returned (.tuple #[.int .i64 (sg (openNum l)), .int .i64 0]) ∧ Below w.heap.size w w' := fun A c w h => refget_any A c _ w h
  have hN := openNum_lt l
  have hsg : openNum l < 9223372036854775808 → sg (openNum l) = (openNum l : Int) := fun h => by unfold sg; rw [if_pos h]
  have hsg2 : ¬ openNum l < 9223372036854775808 → sg (openNum l) < 0 := fun h => by unfold sg; rw [if_neg h]; omega
  have hsb := sg_bd hN
  have hby : 1 ≤ kind → kind ≤ 255 → openNum l < 9223372036854775808 → byteAt l 9 ≤ 113 → ∀ (A : Option Addr) (c : Nat) (w : World), RB w A (byteAt l 9) (openLoad l) →
      Calls Try.prog 65 #[.int .i64 kind, .int .i64 (sg (openNum l)), .slice A (byteAt l 9) c] w fun e w' => ∃ A c, e = .returned (.slice A 128 c) ∧ OB w' w.heap.size 5 A 128 c (sealL kind.toNat (openNum l) (openLoad l)) ∧ Below w.heap.size w w' := fun k1 k2 k3 k4 A c w hr => by
    have := refbytes_any kind (sg (openNum l)) A (byteAt l 9) c (openLoad l) w k1 k2 (by rw [hsg k3]; omega) (by omega) k4 hr
    have e : (sg (openNum l)).toNat = openNum l := by rw [hsg k3]; exact Int.toNat_natCast _
    rwa [e] at this
  have hs1 : ∀ W : World, (Instr.slice 22 (.slice (some ⟨g, o, none⟩) 128 c) (some (.int .i64 1)) (some (.int .i64 9)) none).run Try.prog W = .ok (.slice (some ⟨g, o + 1, none⟩) 8 (c - 1)) W := fun W => run_cut3 elemU8 g o 128 c _ _ 1 8 rfl rfl (by omega) (by omega) W
  have hs2 : byteAt l 9 ≤ 113 → ∀ W : World, (Instr.slice 22 (.slice (some ⟨g, o, none⟩) 128 c) (some (.int .i64 10)) (some (.int .i64 ((10 : Int) + (byteAt l 9 : Nat)))) none).run Try.prog W = .ok (.slice (some ⟨g, o + 10, none⟩) (byteAt l 9) (c - 10)) W := fun h W => run_cut3 elemU8 g o 128 c _ _ 10 (byteAt l 9) rfl (by omega) (by omega) (by omega) W
  have hq : opens l kind = (decide (1 ≤ kind) && decide (kind ≤ 255) && decide (openNum l < 9223372036854775808) && decide (byteAt l 9 ≤ 113) && decide (sealL kind.toNat (openNum l) (openLoad l) = l)) := rfl
  have hRl : 1 ≤ kind → kind ≤ 255 → byteAt l 9 ≤ 113 → (sealL kind.toNat (openNum l) (openLoad l)).length = 128 := fun _ _ h9 => sealL_len _ _ _ (by rw [openLoad_len hl.1 h9]; exact h9)
  have hsame : ∀ (A B : Option Addr) (c d : Nat) (R : List UInt8) (w : World), RB w A 128 R → RB w B 128 l → Calls Try.prog 18 #[.slice A 128 c, .slice B 128 d] w fun e w' => e = .returned (.bool (decide (R = l))) ∧ ∃ q, w' = w.drewN q := fun A B c d R w ha hb => same_any A B 128 128 c d R l w ha hb (by unfold maxLen; omega)
  generalize opens l kind = q at *
  generalize sealL kind.toNat (openNum l) (openLoad l) = R at *
  generalize hn : openNum l = N at *
  generalize openLoad l = K at *
  generalize byteAt l 0 = y0 at *
  generalize byteAt l 9 = y9 at *
  generalize byteAt l 127 = y127 at *
  have HL := Lib.hid hl
  clear h h127 hl hn
  have hcs : kind < 1 ∨ (1 ≤ kind ∧ ¬ N < 9223372036854775808) ∨ (1 ≤ kind ∧ N < 9223372036854775808 ∧ 113 < y9) ∨ (1 ≤ kind ∧ N < 9223372036854775808 ∧ y9 ≤ 113) := by omega
  have hk2 : kind ≤ 255 := by omega
  have H0 := Lib.hid h0
  clear h0
  rcases hcs with h1 | ⟨h1, h2⟩ | ⟨h1, h2, h3⟩ | ⟨h1, h2, h3⟩
  · have hqf : q = false := by rw [hq]; simp; intro h; omega
    clear hq hby hs2 hsg hsg2 hl10 hRl hsame
    subst hqf
    go_enter Try.func21, Try.ntmps21
    go_wp2_with ((go_at_call 67; (with_reducible refine (hget _ _ _ hl1).mono ?_); rintro e w1 ⟨rfl, hB1⟩); have c9' := (hB1.cell (p := ⟨g, o + 9, none⟩) hbl).trans c9)
    go_ret3
    exact RefOpenEnd.no hB1
  · have hqf : q = false := by rw [hq]; simp; intro _ _ h; omega
    have hneg := hsg2 h2
    clear hq hby hs2 hsg hsg2 hl10 hRl hsame h2
    subst hqf
    go_enter Try.func21, Try.ntmps21
    go_wp2_with ((go_at_call 67; (with_reducible refine (hget _ _ _ hl1).mono ?_); rintro e w1 ⟨rfl, hB1⟩); have c9' := (hB1.cell (p := ⟨g, o + 9, none⟩) hbl).trans c9)
    go_ret3
    exact RefOpenEnd.no hB1
  · have hqf : q = false := by rw [hq]; simp; intro _ _ _ h; omega
    have hpos : 0 ≤ sg N := by rw [hsg h2]; omega
    clear hq hby hs2 hsg hsg2 hl10 hRl hsame
    subst hqf
    go_enter Try.func21, Try.ntmps21
    go_wp2_with ((go_at_call 67; (with_reducible refine (hget _ _ _ hl1).mono ?_); rintro e w1 ⟨rfl, hB1⟩); have c9' := (hB1.cell (p := ⟨g, o + 9, none⟩) hbl).trans c9)
    go_ret3
    exact RefOpenEnd.no hB1
  · have hqb : q = decide (R = l) := by rw [hq]; simp [h1, hk2, h2, h3]
    have hpos : 0 ≤ sg N := by rw [hsg h2]; omega
    have hs2' := hs2 h3
    have hK := hl10 h3
    have hby' := Lib.hid (hby h1 hk2 h2 h3)
    clear hq hby hs2 hsg hsg2 hl10 hRl
    have hsame' := Lib.hid (fun A B c d w => hsame A B c d R w)
    clear hsame
    generalize decide (R = l) = b at *
    subst hqb
    cases q
    all_goals
      go_enter Try.func21, Try.ntmps21
      go_wp2_with (first
        | ((go_at_call 67; (with_reducible refine (hget _ _ _ hl1).mono ?_); rintro e w1 ⟨rfl, hB1⟩); have c9' := (hB1.cell (p := ⟨g, o + 9, none⟩) hbl).trans c9; have hK1 := hK.below hB1 (Nat.le_refl _); have hl2 := HL.out.below hB1 (Nat.le_refl _))
        | ((go_at_call 65; (with_reducible refine (hby'.out _ _ _ hK1).mono ?_); rintro e w2 ⟨A2, c2, rfl, own2, hB2⟩); replace hK1 := hK1.below hB2 (Nat.le_refl _); replace hl2 := hl2.below hB2 (Nat.le_refl _); replace hB2 := below_then hB1 hB2 hB1.size)
        | (go_at_call 18; (with_reducible refine (hsame'.out _ _ _ _ _ own2.rd.rb hl2).mono ?_); rintro e w3 ⟨rfl, q3, rfl⟩))
      go_ret3
    · exact RefOpenEnd.no (below_drewN hB2 q3)
    · exact RefOpenEnd.yes (below_drewN hB2 q3) hK1
theorem refopen_any (g o c : Nat) (l : List UInt8) (kind : Int) (w : World) (hl : RB w (some ⟨g, o, none⟩) 128 l) (hc : 128 ≤ c) :
    Calls Try.prog 21 #[.slice (some ⟨g, o, none⟩) 128 c, .int .i64 kind] w (RefOpenEnd (byteAt l 9) (openLoad l) (opens l kind) (sg (openNum l)) w) := by
  by_cases h : RefBad l kind
  · have hf : opens l kind = false := by
      cases ho : opens l kind with
      | false => rfl
      | true =>
        have h1 := opens_kind ho
        unfold RefBad at h
        omega
    rw [hf]
    exact (refopen_bad g o c l kind w hl h).mono fun e w' ⟨he, hw⟩ => .inl ⟨rfl, he, hw ▸ Below.refl _ _⟩
  · exact refopen_main g o c l kind w hl hc h
end Go.Proofs.Ytmaiafmpihpleaa
