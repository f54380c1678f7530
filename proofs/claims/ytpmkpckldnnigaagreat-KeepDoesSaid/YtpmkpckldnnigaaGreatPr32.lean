/- Parts: RefSealA. -/
import Derived.Test.YtpmkpckldnnigaaGreatPr02
import Derived.Test.YtpmkpckldnnigaaGreatPr12
import Derived.Test.YtpmkpckldnnigaaGreatPr31
import Derived.Test.YtpmkpckldnnigaaGreatPr07
set_option linter.unusedVariables false
set_option linter.unusedSimpArgs false
set_option maxRecDepth 100000
set_option maxHeartbeats 40000000
namespace Go.Proofs.YtpmkpckldnnigaaGreat
open Go.RowKit
theorem vb3 (kind n : Int) (A : Option Addr) (m c : Nat) (l : List UInt8) (w : World) (h1 : 1 ≤ kind) (h2 : kind ≤ 255) (h3 : 0 ≤ n) (hn : n ≤ 9223372036854775807) (h4 : m ≤ 113) (hl : RB w A m l) :
    Calls Tryz.prog 231 #[.int .i64 kind, .int .i64 n, .slice A m c] w fun e w' => ∃ A c, e = .returned (.slice A 128 c) ∧ OB w' w.heap.size 5 A 128 c (qn6 kind.toNat n.toNat l) ∧ Below w.heap.size w w' := by
  have hput := fun w => qv1 n w omg hn
  rw [show un n = n.toNat from by unfold un; omega] at hput; have hbody := qn2 kind.toNat n.toNat l (by rw [hl.1]; exact h4); have hlen := hdd hl.1; have e1 : Hid ([.int .u8 kind] = [UInt8.ofNat kind.toNat].map bv) := by
    show _ = [bv (UInt8.ofNat kind.toNat)]
    rw [qi2 omg]; congr 2; omega
  have e2 : Hid ([.int .u8 (m : Int)] = [UInt8.ofNat m].map bv) := by
    show _ = [bv (UInt8.ofNat m)]
    rw [qi2 omg]
  have hp := hdd (qy0 n.toNat); have hS := qr9 [qf7 kind.toNat n.toNat l]; have hsum := fun A n' d w hl hn => sum_ref A n' d (qf7 kind.toNat n.toNat l) w hl hn
  have hfin : Hid (qn6 kind.toNat n.toNat l = qf7 kind.toNat n.toNat l ++ (tabB 4 (fun i => qh4 [qf7 kind.toNat n.toNat l] / 256 ^ i % 256) ++ [215])) := rfl; have hbodyE : Hid (qf7 kind.toNat n.toNat l = ([UInt8.ofNat kind.toNat] ++ putL n.toNat ++ [UInt8.ofNat m] ++ l) ++ List.replicate (113 - m) 0) := by
    show _ = _
    simp [qf7, hl.1]
  generalize qn6 kind.toNat n.toNat l = R at *; generalize qf7 kind.toNat n.toNat l = B at *; have HB := hdd hbody; clear hbody; generalize hP : putL n.toNat = P at *; generalize hK : UInt8.ofNat kind.toNat = k0 at *; generalize hM : UInt8.ofNat m = m0 at *; clear hP hK hM; generalize qh4 [B] = S at *; have Hput := hdd hput; have Hsum := hdd hsum; clear hput hsum; go_enter Tryz.func231, Tryz.ntmps231; go_wp2_with (first | ((go_at_call 157; (with_reducible refine (Hput.out _).mono ?_); rintro e w1 ⟨A1, c1, rfl, hown1, hb1⟩); have own0 : Ow bv w1 w.heap.size 5 (some ⟨w.heap.size, 0, none⟩) 1 1 [k0] := (Ow.new w 5 #[.int .u8 kind] [k0] e1.out (by unfold maxLen; simp)).below hb1 nlr; replace hb1 := qa0 (a := w) (B := w.heap.size) gwn hb1 szz; have hb1s := hb1.size) | (at_builtin; refine qa6 rfl rfl qb4 qc2 (s := .tmp 13) (N := 9) (L := [k0] ++ P) rfl own0 rfl (k := P) hown1.rd omg rfl uml omg hb1s ?_; intro A2 c2 w2 hown2 hg2 hat2 hb2; replace hb2 := qa0 (a := w) (B := w.heap.size) gwn hb2 szz; have hb2s := hb2.size) | (at_builtin; refine qa6 rfl rfl qb4 qc2 (s := .tmp 17) (N := 10) (L := [k0] ++ P ++ [m0]) rfl (hown2.below (b := w2.heap.size) gwn szz) rfl (k := [m0]) (Rd.of_block (l := [m0]) (qb7 _ _ smp) e2.out) rfl rfl uml omg szz ?_; intro A3 c3 w3 hown3 hg3 hat3 hb3; replace hb3 := qa0 (a := w) (B := w.heap.size) gwn hb3 szz; have hb3s := hb3.size) | (at_builtin; refine qa6 rfl rfl qb4 qc2 (s := .tmp 23) (N := 10 + m) (L := [k0] ++ P ++ [m0] ++ l) rfl hown3 rfl (k := l) ((hl.below (B := w.heap.size) gwn nlr)).rd rfl rfl uml omg szz ?_; intro A4 c4 w4 hown4 hg4 hat4 hb4; replace hb4 := qa0 (a := w) (B := w.heap.size) gwn hb4 szz; have hb4s := hb4.size)); have hL0 : Hid (([k0] ++ P ++ [m0] ++ l).length = 10 + m) := by show _ = _; simp [hp.out, hlen.out]; omega
  generalize [k0] ++ P ++ [m0] ++ l = L0 at *; clear hown1 own0 hown2 hown3 hg2 hat2 hg3 hat3 hg4 hat4 Hput; have hown5 := hown4.rebase (base' := w.heap.size) omg; clear hown4; go_loopw [7] (fun v wr => ∃ k A c, k ≤ 113 - m ∧ v = .slice A (10 + m + k) c ∧ OB wr w.heap.size 5 A (10 + m + k) c (L0 ++ List.replicate k 0) ∧ Below w.heap.size w wr) (fun v _ => 123 - lenIn v)
  case atStart => exact ⟨0, A4, c4, omg, rfl, by simpa using hown5, hb4⟩
  case round =>
    obtain ⟨k, A5, c5, hk, rfl, hown, hb⟩ := hrel; have hbs := hb.size
    by_cases hk4 : k < 113 - m
    · have hL : Hid (L0 ++ List.replicate k 0 ++ [0] = L0 ++ List.replicate (k + 1) 0) := by
        show _ = _
        rw [List.append_assoc, List.replicate_succ']
      go_wp2_with (at_builtin; refine qa6 rfl rfl qb4 qc2 (s := .tmp 29) (N := 10 + m + (k + 1)) (L := L0 ++ List.replicate (k + 1) 0) rfl (hown.below (b := wr.heap.size) gwn szz) rfl (k := [0]) (Rd.of_block (l := [0]) (qb7 _ _ smp) rfl) rfl hL.out uml omg szz ?_; intro A6 c6 w6 hown6 hg6 hat6 hb6; replace hb6 := qa0 (a := w) (B := w.heap.size) gwn hb6 szz; have hb6s := hb6.size); go_roundw
      case rel => exact ⟨k + 1, A6, c6, omg, rfl, hown6, hb6⟩
      case measure => simp [lenIn]; omega
    · have hk9 : k = 113 - m := omg; have hB : Hid (L0 ++ List.replicate k 0 = B) := by show _ = _; rw [hbodyE.out, hk9]
      have hn9 : 10 + m + k = 123 := omg; rw [hB.out] at hown; clear hk9 hL0 hown5 hb4 hk4 hB hbodyE; generalize 10 + m + k = N0 at *; have HN0 := hdd hn9; have hN0 : N0 ≤ 123 := omg; have hN1 : 123 ≤ N0 := omg; clear hn9; go_wp2_with ((go_at_call 218; (with_reducible refine (Hsum.out _ _ _ _ hown.rd.rb uml).mono ?_); rintro e w6 ⟨rfl, hb6⟩); replace hown := hown.below hb6 nlr; replace hb6 := qa0 (a := w) (B := w.heap.size) gwn hb6 szz; have hb6s := hb6.size); clear Hsum hb hbs; go_loopw [7, 8, 9] (fun v s i wr => ∃ j x A c, j ≤ 4 ∧ i = .int .i64 (j : Nat) ∧ s = .int .i64 (x : Nat) ∧ Hid (x = S / 256 ^ j) ∧ x < 4294967296 ∧ v = .slice A (N0 + j) c ∧ OB wr w.heap.size 5 A (N0 + j) c (B ++ tabB j (fun i => S / 256 ^ i % 256)) ∧ Below w.heap.size w wr) (fun _ _ i _ => 4 - (intOf i).toNat)
      case atStart => exact ⟨0, S, A5, c5, omg, rfl, rfl, by show S = S / 256 ^ 0; omega, hS, rfl, by simpa [tabB] using hown, hb6⟩
      case round =>
        obtain ⟨j, x, A7, c7, hj, rfl, rfl, hx, hx2, rfl, hown7, hb7⟩ := hrel; have hb7s := hb7.size
        by_cases hj4 : j < 4
        · have hL : Hid (B ++ tabB j (fun i => S / 256 ^ i % 256) ++ [UInt8.ofNat (x % 256)] = B ++ tabB (j + 1) (fun i => S / 256 ^ i % 256)) := by
            show _ = _
            rw [List.append_assoc, ← vc9, hx.out]
          have hbv : Hid ([Value.int .u8 ((x : Int) % 256)] = [UInt8.ofNat (x % 256)].map bv) := by
            show _ = [bv (UInt8.ofNat (x % 256))]
            rw [qi2 omg]; rfl
          have hx3 : Hid (x / 256 = S / 256 ^ (j + 1)) := by show _ = _; rw [hx.out, Nat.div_div_eq_div_mul, Nat.pow_succ]
          clear hx; go_wp2_with (at_builtin; refine qa6 rfl rfl qb4 qc2 (s := .tmp 38) (N := N0 + (j + 1)) (L := B ++ tabB (j + 1) (fun i => S / 256 ^ i % 256)) rfl (hown7.below (b := wr.heap.size) gwn szz) rfl (k := [UInt8.ofNat (x % 256)]) (Rd.of_block (l := [UInt8.ofNat (x % 256)]) (qb7 _ _ smp) hbv.out) rfl hL.out uml omg szz ?_; intro A8 c8 w8 hown8 hg8 hat8 hb8; replace hb8 := qa0 (a := w) (B := w.heap.size) gwn hb8 szz; have hb8s := hb8.size); go_roundw
          case rel => exact ⟨j + 1, x / 256, A8, c8, omg, by go_num, by go_num, hx3, omg, rfl, hown8, hb8⟩
          case measure => simp [intOf]; omega
        · have hj9 : j = 4 := omg; subst hj9; go_wp2_with (at_builtin; refine qa6 rfl rfl qb4 qc2 (s := .tmp 46) (N := N0 + 5) (L := R) rfl (hown7.below (b := wr.heap.size) gwn szz) rfl (k := [215]) (Rd.of_block (l := [215]) (qb7 _ _ smp) rfl) rfl (by rw [hfin.out, List.append_assoc]) uml omg szz ?_; intro A8 c8 w8 hown8 hg8 hat8 hb8; replace hb8 := qa0 (a := w) (B := w.heap.size) gwn hb8 szz; have hb8s := hb8.size); go_ret; have e9 : N0 + 5 = 128 := by rw [HN0.out]
          rw [e9] at hown8; exact ⟨A8, c8, by show Ending.returned (.slice A8 (N0 + 5) c8) = _; rw [e9], hown8, hb8⟩
theorem refmake_any (kind n : Int) (A : Option Addr) (m c : Nat) (l : List UInt8) (w : World) (hn : n ≤ 9223372036854775807) (hm : m ≤ maxLen) (hl : RB w A m l) :
    Calls Tryz.prog 217 #[.int .i64 kind, .int .i64 n, .slice A m c] w fun e w' => ∃ A c, e = .returned (.tuple #[.slice A 128 c, .int .i64 (qt5 kind n l).2]) ∧ OB w' w.heap.size 5 A 128 c (qt5 kind n l).1 ∧ Below w.heap.size w w' := by
  unfold maxLen at hm; have hmk : ∀ W : World, (Instr.makeSlice 22 (.int .i64 128) (.int .i64 128)).run Tryz.prog W = .ok (.slice (some ⟨W.heap.size, 0, none⟩) 128 128) (W.alloc (.cells (madeCells (Value.int .u8 0).cells 128) 5)) := qi4 qb4 128 omg omg; have hown0 : Ow bv (w.alloc (.cells (madeCells (Value.int .u8 0).cells 128) 5)) w.heap.size 5 (some ⟨w.heap.size, 0, none⟩) 128 128 qa5 := by
    have := Ow.made (enc := bv) w 5 0 (.int .u8 0) 128 rfl dcd; exact this
  generalize madeCells (Value.int .u8 0).cells 128 = Zc at *; have hb0 : Below w.heap.size w (w.alloc (.cells Zc 5)) := gwn; have Hmk : Hid (∀ W : World, (Instr.makeSlice 22 (.int .i64 128) (.int .i64 128)).run Tryz.prog W = .ok (.slice (some ⟨W.heap.size, 0, none⟩) 128 128) (W.alloc (.cells Zc 5))) := hmk; clear hmk; have hmk := Hmk.out; unfold qt5
  by_cases h : kind < 1 ∨ 255 < kind ∨ n < 0
  · rw [if_pos h]; have h' : kind < 1 ∨ (1 ≤ kind ∧ 255 < kind) ∨ (1 ≤ kind ∧ kind ≤ 255 ∧ n < 0) := omg; clear h; rcases h' with h | ⟨h1, h⟩ | ⟨h1, h2, h⟩
    all_goals
      go_enter Tryz.func217, Tryz.ntmps217; go_wp2; go_ret2; exact ⟨_, _, rfl, hown0, hb0⟩
  · rw [if_neg h]; have h1 : 1 ≤ kind := omg; have h2 : kind ≤ 255 := omg; have h3 : 0 ≤ n := omg; clear h; rw [hl.1]
    by_cases h4 : 113 < m
    · rw [if_pos h4]; go_enter Tryz.func217, Tryz.ntmps217; go_wp2; go_ret2; exact ⟨_, _, rfl, hown0, hb0⟩
    · rw [if_neg h4]; have hby := fun w hl => vb3 kind n A m c l w h1 h2 h3 hn omg hl
      generalize qn6 kind.toNat n.toNat l = R at *; have Hby := hdd hby; clear hby hown0 hb0; go_enter Tryz.func217, Tryz.ntmps217; go_wp2_with (go_at_call 231; (with_reducible refine (Hby.out _ hl).mono ?_); rintro e w1 ⟨A1, c1, rfl, hown1, hb1⟩); go_ret2; exact ⟨_, _, rfl, hown1, hb1⟩
theorem run_cut3 {P : Program} {t e : TypeId} {z : Value} {bytes : Nat} (hE : qg4 P t e z 1 bytes) (g o len cap : Nat) (lo hi : Int) (L m : Nat) (hL : lo = (L : Int)) (hh : hi = ((L + m : Nat) : Int)) (hm : L + m ≤ cap) (hc : cap ≠ L) (W : World) :
    (Instr.slice t (.slice (some ⟨g, o, none⟩) len cap) (some (.int .i64 lo)) (some (.int .i64 hi)) none).run P W = .ok (.slice (some ⟨g, o + L, none⟩) m (cap - L)) W := by
  obtain ⟨ht, ⟨i, hi', _, hs, _⟩, _⟩ := hE; subst hL hh; have hadd : (⟨g, o, none⟩ : Addr).add L = ⟨g, o + L, none⟩ := by unfold Addr.add; split <;> simp_all
  simp [Instr.slice, run_underlying ht, Instr.sliceBounds, Instr.sliceBound, sizeOf, typeInfo, hi', hs, asIntOf, hc, hadd]; rw [if_pos omg, if_pos omg, show ((L : Int) + (m : Int)).toNat - L = m from by omega]
theorem RB.part {w : World} {g o n : Nat} {l : List UInt8} (h : RB w (some ⟨g, o, none⟩) n l) (L m : Nat) (hm : L + m ≤ n) : RB w (some ⟨g, o + L, none⟩) m ((l.drop L).take m) := by
  refine ⟨by rw [List.length_take, List.length_drop, h.1]; omega, fun h0 => ?_⟩; obtain ⟨b, o', e, hb, hc⟩ := h.2 omg; injection e with e; injection e with e1 e2 _; subst e1 e2; refine ⟨_, _, rfl, hb, fun i hi => ?_⟩; have := hc (L + i) omg; rw [Nat.add_assoc, this]; unfold qa2; simp [List.getD_eq_getElem?_getD, hi]
def qh1 (g cc y9 : Nat) (K : List UInt8) (q : Bool) (N : Int) (w : World) (e : Ending) (w' : World) : Prop :=
  (q = false ∧ e = .returned (.tuple #[.int .i64 0, .slice none 0 0, .int .i64 53]) ∧ Below w.heap.size w w') ∨
  (q = true ∧ ∃ o' c, e = .returned (.tuple #[.int .i64 N, .slice (some ⟨g, o', none⟩) y9 c, .int .i64 0]) ∧ RB w' (some ⟨g, o', none⟩) y9 K ∧ Below w.heap.size w w' ∧ y9 ≤ c ∧ c ≤ cc)
theorem qh1.no {g cc y9 : Nat} {K : List UInt8} {N : Int} {w w' : World} (h : Below w.heap.size w w') : qh1 g cc y9 K false N w (.returned (.tuple #[.int .i64 0, .slice none 0 0, .int .i64 53])) w' := .inl ⟨rfl, rfl, h⟩
theorem qh1.yes {g cc y9 c o' : Nat} {K : List UInt8} {N : Int} {w w' : World} (h : Below w.heap.size w w') (ho : RB w' (some ⟨g, o', none⟩) y9 K) (h1 : y9 ≤ c) (h2 : c ≤ cc) : qh1 g cc y9 K true N w (.returned (.tuple #[.int .i64 N, .slice (some ⟨g, o', none⟩) y9 c, .int .i64 0])) w' := .inr ⟨rfl, o', c, rfl, ho, h, h1, h2⟩
def vf6 (l : List UInt8) (kind : Int) : Prop := (qa2 l 0 : Int) ≠ kind ∨ ((qa2 l 0 : Int) = kind ∧ qa2 l 127 ≠ 215)
theorem refopen_bad (g o c : Nat) (l : List UInt8) (kind : Int) (w : World) (hl : RB w (some ⟨g, o, none⟩) 128 l) (h : vf6 l kind) :
    Calls Tryz.prog 171 #[.slice (some ⟨g, o, none⟩) 128 c, .int .i64 kind] w fun e w' => e = .returned (.tuple #[.int .i64 0, .slice none 0 0, .int .i64 53]) ∧ w = w' := by
  obtain ⟨_, _, e0, _, c0⟩ := hl.at_ (k := 0) omg; injection e0 with e0; injection e0 with e1 e2 _; subst e1 e2; rw [Nat.add_zero] at c0; obtain ⟨_, _, e0, _, c127⟩ := hl.at_ (k := 127) omg; injection e0 with e0; injection e0 with e1 e2 _; subst e1 e2; have b0 := qf9 l 0; have b127 := qf9 l 127; unfold vf6 at h; generalize qa2 l 0 = y0 at *; generalize qa2 l 127 = y127 at *; rcases h with h | ⟨h, h2⟩
  · have t1 : (((y0 : Nat) : Int) != kind) = true := by rw [bne_iff_ne]; exact h
    clear h; go_enter Tryz.func171, Tryz.ntmps171; go_wp2; go_ret3; exact ⟨rfl, rfl⟩
  · have t1 : (((y0 : Nat) : Int) != kind) = false := by rw [h]; simp
    have t2 : (((y127 : Nat) : Int) != 215) = true := by rw [bne_iff_ne]; omega
    clear h h2; go_enter Tryz.func171, Tryz.ntmps171; go_wp2; go_ret3; exact ⟨rfl, rfl⟩
theorem refopen_mainB (g o c : Nat) (l : List UInt8) (kind : Int) (w : World) (hl : RB w (some ⟨g, o, none⟩) 128 l) (hc : 128 ≤ c) (h : ¬ vf6 l kind) :
    Calls Tryz.prog 171 #[.slice (some ⟨g, o, none⟩) 128 c, .int .i64 kind] w (qh1 g c (qa2 l 9) (qe2 l) (qs5 l kind) (sg (qd1 l)) w) := by
  obtain ⟨_, _, e0, _, c0⟩ := hl.at_ (k := 0) omg; injection e0 with e0; injection e0 with e1 e2 _; subst e1 e2; rw [Nat.add_zero] at c0; obtain ⟨_, _, e0, _, c127⟩ := hl.at_ (k := 127) omg; injection e0 with e0; injection e0 with e1 e2 _; subst e1 e2; obtain ⟨_, _, e0, hbl, c9⟩ := hl.at_ (k := 9) omg; injection e0 with e0; injection e0 with e1 e2 _; subst e1 e2; have hl1 : RB w (some ⟨g, o + 1, none⟩) 8 ((l.drop 1).take 8) := hl.part 1 8 omg; have hl10 : qa2 l 9 ≤ 113 → RB w (some ⟨g, o + 10, none⟩) (qa2 l 9) (qe2 l) := fun h => hl.part 10 (qa2 l 9) omg
  have b0 := qf9 l 0; have b9 := qf9 l 9; have b127 := qf9 l 127; have h0 : (qa2 l 0 : Int) = kind := by unfold vf6 at h; omega
  have h127 : qa2 l 127 = 215 := by unfold vf6 at h; omega
  have t1 : (((qa2 l 0 : Nat) : Int) != kind) = false := by rw [h0]; simp
  have t2 : (((qa2 l 127 : Nat) : Int) != 215) = false := by rw [h127]; rfl
  have hget : ∀ (A : Option Addr) (c : Nat) (w : World), RB w A 8 ((l.drop 1).take 8) → Calls Tryz.prog 152 #[.slice A 8 c] w fun e w' => e = .returned (.tuple #[.int .i64 (sg (qd1 l)), .int .i64 0]) ∧ Below w.heap.size w w' := fun A c w h => qv3 A c _ w h
  have hN := qz6 l; have hsg : qd1 l < 9223372036854775808 → sg (qd1 l) = (qd1 l : Int) := fun h => by unfold sg; rw [if_pos h]
  have hsg2 : ¬ qd1 l < 9223372036854775808 → sg (qd1 l) < 0 := fun h => by unfold sg; rw [if_neg h]; omega
  have hsb := sg_bd hN; have hby : 1 ≤ kind → kind ≤ 255 → qd1 l < 9223372036854775808 → qa2 l 9 ≤ 113 → ∀ (A : Option Addr) (c : Nat) (w : World), RB w A (qa2 l 9) (qe2 l) →
      Calls Tryz.prog 231 #[.int .i64 kind, .int .i64 (sg (qd1 l)), .slice A (qa2 l 9) c] w fun e w' => ∃ A c, e = .returned (.slice A 128 c) ∧ OB w' w.heap.size 5 A 128 c (qn6 kind.toNat (qd1 l) (qe2 l)) ∧ Below w.heap.size w w' := fun k1 k2 k3 k4 A c w hr => by
    have := vb3 kind (sg (qd1 l)) A (qa2 l 9) c (qe2 l) w k1 k2 (by rw [hsg k3]; omega) omg k4 hr; have e : (sg (qd1 l)).toNat = qd1 l := by rw [hsg k3]; exact Int.toNat_natCast _
    rwa [e] at this
  have hs1 : ∀ W : World, (Instr.slice 22 (.slice (some ⟨g, o, none⟩) 128 c) (some (.int .i64 1)) (some (.int .i64 9)) none).run Tryz.prog W = .ok (.slice (some ⟨g, o + 1, none⟩) 8 (c - 1)) W := fun W => run_cut3 qb4 g o 128 c _ _ 1 8 rfl rfl omg omg W
  have hs2 : qa2 l 9 ≤ 113 → ∀ W : World, (Instr.slice 22 (.slice (some ⟨g, o, none⟩) 128 c) (some (.int .i64 10)) (some (.int .i64 ((10 : Int) + (qa2 l 9 : Nat)))) none).run Tryz.prog W = .ok (.slice (some ⟨g, o + 10, none⟩) (qa2 l 9) (c - 10)) W := fun h W => run_cut3 qb4 g o 128 c _ _ 10 (qa2 l 9) rfl omg omg omg W
  have hq : qs5 l kind = (decide (1 ≤ kind) && decide (kind ≤ 255) && decide (qd1 l < 9223372036854775808) && decide (qa2 l 9 ≤ 113) && decide (qn6 kind.toNat (qd1 l) (qe2 l) = l)) := rfl; have hRl : 1 ≤ kind → kind ≤ 255 → qa2 l 9 ≤ 113 → (qn6 kind.toNat (qd1 l) (qe2 l)).length = 128 := fun _ _ h9 => qt9 _ _ _ (by rw [qu1 hl.1 h9]; exact h9)
  have hsame : ∀ (A B : Option Addr) (c d : Nat) (R : List UInt8) (w : World), RB w A 128 R → RB w B 128 l → Calls Tryz.prog 26 #[.slice A 128 c, .slice B 128 d] w fun e w' => e = .returned (.bool (decide (R = l))) ∧ ∃ q, w' = w.drewN q := fun A B c d R w ha hb => vb8 A B 128 128 c d R l w ha hb uml
  generalize qs5 l kind = q at *; generalize qn6 kind.toNat (qd1 l) (qe2 l) = R at *; generalize hn : qd1 l = N at *; generalize qe2 l = K at *; generalize qa2 l 0 = y0 at *; generalize qa2 l 9 = y9 at *; generalize qa2 l 127 = y127 at *; have HL := hdd hl; clear h h127 hl hn; have hcs : kind < 1 ∨ (1 ≤ kind ∧ ¬ N < 9223372036854775808) ∨ (1 ≤ kind ∧ N < 9223372036854775808 ∧ 113 < y9) ∨ (1 ≤ kind ∧ N < 9223372036854775808 ∧ y9 ≤ 113) := omg; have hk2 : kind ≤ 255 := omg; have H0 := hdd h0; clear h0; rcases hcs with h1 | ⟨h1, h2⟩ | ⟨h1, h2, h3⟩ | ⟨h1, h2, h3⟩
  · have hqf : q = false := by rw [hq]; simp; intro h; omega
    clear hq hby hs2 hsg hsg2 hl10 hRl hsame; subst hqf; go_enter Tryz.func171, Tryz.ntmps171; go_wp2_with ((go_at_call 152; (with_reducible refine (hget _ _ _ hl1).mono ?_); rintro e w1 ⟨rfl, hB1⟩); have c9' := (hB1.cell (p := ⟨g, o + 9, none⟩) hbl).trans c9); go_ret3; exact qh1.no hB1
  · have hqf : q = false := by rw [hq]; simp; intro _ _ h; omega
    have hneg := hsg2 h2; clear hq hby hs2 hsg hsg2 hl10 hRl hsame h2; subst hqf; go_enter Tryz.func171, Tryz.ntmps171; go_wp2_with ((go_at_call 152; (with_reducible refine (hget _ _ _ hl1).mono ?_); rintro e w1 ⟨rfl, hB1⟩); have c9' := (hB1.cell (p := ⟨g, o + 9, none⟩) hbl).trans c9); go_ret3; exact qh1.no hB1
  · have hqf : q = false := by rw [hq]; simp; intro _ _ _ h; omega
    have hpos : 0 ≤ sg N := by rw [hsg h2]; omega
    clear hq hby hs2 hsg hsg2 hl10 hRl hsame; subst hqf; go_enter Tryz.func171, Tryz.ntmps171; go_wp2_with ((go_at_call 152; (with_reducible refine (hget _ _ _ hl1).mono ?_); rintro e w1 ⟨rfl, hB1⟩); have c9' := (hB1.cell (p := ⟨g, o + 9, none⟩) hbl).trans c9); go_ret3; exact qh1.no hB1
  · have hqb : q = decide (R = l) := by rw [hq]; simp [h1, hk2, h2, h3]
    have hpos : 0 ≤ sg N := by rw [hsg h2]; omega
    have hs2' := hs2 h3; have hK := hl10 h3; have hby' := hdd (hby h1 hk2 h2 h3); clear hq hby hs2 hsg hsg2 hl10 hRl; have hsame' := hdd (fun A B c d w => hsame A B c d R w); clear hsame; generalize decide (R = l) = b at *; subst hqb
    cases q
    all_goals
      go_enter Tryz.func171, Tryz.ntmps171; go_wp2_with (first | ((go_at_call 152; (with_reducible refine (hget _ _ _ hl1).mono ?_); rintro e w1 ⟨rfl, hB1⟩); have c9' := (hB1.cell (p := ⟨g, o + 9, none⟩) hbl).trans c9; have hK1 := hK.below hB1 nlr; have hl2 := HL.out.below hB1 nlr) | ((go_at_call 231; (with_reducible refine (hby'.out _ _ _ hK1).mono ?_); rintro e w2 ⟨A2, c2, rfl, own2, hB2⟩); replace hK1 := hK1.below hB2 nlr; replace hl2 := hl2.below hB2 nlr; replace hB2 := qj7 hB1 hB2 hB1.size) | (go_at_call 26; (with_reducible refine (hsame'.out _ _ _ _ _ own2.rd.rb hl2).mono ?_); rintro e w3 ⟨rfl, q3, rfl⟩)); go_ret3
    · exact qh1.no (below_drewN hB2 q3)
    · exact qh1.yes (below_drewN hB2 q3) hK1 omg omg
theorem refopen_anyB (g o c : Nat) (l : List UInt8) (kind : Int) (w : World) (hl : RB w (some ⟨g, o, none⟩) 128 l) (hc : 128 ≤ c) :
    Calls Tryz.prog 171 #[.slice (some ⟨g, o, none⟩) 128 c, .int .i64 kind] w (qh1 g c (qa2 l 9) (qe2 l) (qs5 l kind) (sg (qd1 l)) w) := by
  by_cases h : vf6 l kind
  · have hf : qs5 l kind = false := by
      cases ho : qs5 l kind with
      | false => rfl
      | true =>
        have h1 := vh7 ho; unfold vf6 at h; omega
    rw [hf]; exact (refopen_bad g o c l kind w hl h).mono fun e w' ⟨he, hw⟩ => .inl ⟨rfl, he, hw ▸ Below.refl _ _⟩
  · exact refopen_mainB g o c l kind w hl hc h
end Go.Proofs.YtpmkpckldnnigaaGreat
