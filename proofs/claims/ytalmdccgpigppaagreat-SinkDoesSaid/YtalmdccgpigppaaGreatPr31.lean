/- Parts: RefSealA. -/
import Derived.Test.YtalmdccgpigppaaGreatPr06
import Derived.Test.YtalmdccgpigppaaGreatPr29
import Derived.Test.YtalmdccgpigppaaGreatPr30
namespace Go.Proofs.YtalmdccgpigppaaGreat
open Go.RowKit

set_option maxRecDepth 100000 in
set_option maxHeartbeats 1000000 in
theorem refbytes_any (kind n : Int) (A : Option Addr) (m c : Nat) (l : List UInt8) (w : World) (h1 : 1 ≤ kind) (h2 : kind ≤ 255) (h3 : 0 ≤ n) (hn : n ≤ 9223372036854775807) (h4 : m ≤ 113) (hl : RB w A m l) :
    Calls Tryz.prog 204 #[.int .i64 kind, .int .i64 n, .slice A m c] w fun e w' => ∃ A c, e = .returned (.slice A 128 c) ∧ OB w' w.heap.size 5 A 128 c (sealL kind.toNat n.toNat l) ∧ Below w.heap.size w w' := by
  have hput := fun w => refput_any n w (by omega) hn
  rw [show un n = n.toNat from by unfold un; omega] at hput
  have hbody := sealBody_len kind.toNat n.toNat l (by rw [hl.1]; exact h4)
  have hlen := Lib.hid hl.1
  have e1 : Hid ([.int .u8 kind] = [UInt8.ofNat kind.toNat].map bv) := by
    show _ = [bv (UInt8.ofNat kind.toNat)]
    rw [bv_ofNat (by omega)]; congr 2; omega
  have e2 : Hid ([.int .u8 (m : Int)] = [UInt8.ofNat m].map bv) := by
    show _ = [bv (UInt8.ofNat m)]
    rw [bv_ofNat (by omega)]
  have hp := Lib.hid (putL_len n.toNat)
  have hS := crcSum_lt [sealBody kind.toNat n.toNat l]
  have hsum := fun A n' d w hl hn => sum_ref A n' d (sealBody kind.toNat n.toNat l) w hl hn
  have hfin : Hid (sealL kind.toNat n.toNat l = sealBody kind.toNat n.toNat l ++ (tabB 4 (fun i => crcSum [sealBody kind.toNat n.toNat l] / 256 ^ i % 256) ++ [215])) := rfl
  have hbodyE : Hid (sealBody kind.toNat n.toNat l = ([UInt8.ofNat kind.toNat] ++ putL n.toNat ++ [UInt8.ofNat m] ++ l) ++ List.replicate (113 - m) 0) := by
    show _ = _
    simp [sealBody, hl.1]
  generalize sealL kind.toNat n.toNat l = R at *
  generalize sealBody kind.toNat n.toNat l = B at *
  have HB := Lib.hid hbody
  clear hbody
  generalize hP : putL n.toNat = P at *
  generalize hK : UInt8.ofNat kind.toNat = k0 at *
  generalize hM : UInt8.ofNat m = m0 at *
  clear hP hK hM
  generalize crcSum [B] = S at *
  have Hput := Lib.hid hput
  have Hsum := Lib.hid hsum
  clear hput hsum
  go_enter Tryz.func204, Tryz.ntmps204
  go_wp2_with (first
    | ((go_at_call 145; (with_reducible refine (Hput.out _).mono ?_); rintro e w1 ⟨A1, c1, rfl, hown1, hb1⟩); have own0 : Ow bv w1 w.heap.size 5 (some ⟨w.heap.size, 0, none⟩) 1 1 [k0] := (Ow.new w 5 #[.int .u8 kind] [k0] e1.out (by unfold maxLen; simp)).below hb1 (Nat.le_refl _); replace hb1 := below_then' (a := w) (B := w.heap.size) (by (repeat' (first | (with_reducible exact Below.refl _ _) | (with_reducible assumption) | (with_reducible refine Below.drew ?_) | (with_reducible refine below_drewN ?_ _) | (with_reducible refine Below.alloc ?_ ?_ _) | (with_reducible refine Below.setCell ?_ ?_ _) | omega | (simp; done) | (simp; omega)))) hb1 (by first | omega | (simp; done) | (simp; omega)); have hb1s := hb1.size)
    | (at_builtin; refine wpList_app rfl rfl elemU8 bv_one (s := .tmp 13) (N := 9) (L := [k0] ++ P) rfl own0 rfl (k := P) hown1.rd (by omega) rfl (by unfold maxLen; omega) (by omega) hb1s ?_; intro A2 c2 w2 hown2 hg2 hat2 hb2; replace hb2 := below_then' (a := w) (B := w.heap.size) (by (repeat' (first | (with_reducible exact Below.refl _ _) | (with_reducible assumption) | (with_reducible refine Below.drew ?_) | (with_reducible refine below_drewN ?_ _) | (with_reducible refine Below.alloc ?_ ?_ _) | (with_reducible refine Below.setCell ?_ ?_ _) | omega | (simp; done) | (simp; omega)))) hb2 (by first | omega | (simp; done) | (simp; omega)); have hb2s := hb2.size)
    | (at_builtin; refine wpList_app rfl rfl elemU8 bv_one (s := .tmp 17) (N := 10) (L := [k0] ++ P ++ [m0]) rfl (hown2.below (b := w2.heap.size) (by (repeat' (first | (with_reducible exact Below.refl _ _) | (with_reducible assumption) | (with_reducible refine Below.drew ?_) | (with_reducible refine below_drewN ?_ _) | (with_reducible refine Below.alloc ?_ ?_ _) | (with_reducible refine Below.setCell ?_ ?_ _) | omega | (simp; done) | (simp; omega)))) (by first | omega | (simp; done) | (simp; omega))) rfl (k := [m0]) (Rd.of_block (l := [m0]) (heap_top _ _ (by simp)) e2.out) rfl rfl (by unfold maxLen; omega) (by omega) (by first | omega | (simp; done) | (simp; omega)) ?_; intro A3 c3 w3 hown3 hg3 hat3 hb3; replace hb3 := below_then' (a := w) (B := w.heap.size) (by (repeat' (first | (with_reducible exact Below.refl _ _) | (with_reducible assumption) | (with_reducible refine Below.drew ?_) | (with_reducible refine below_drewN ?_ _) | (with_reducible refine Below.alloc ?_ ?_ _) | (with_reducible refine Below.setCell ?_ ?_ _) | omega | (simp; done) | (simp; omega)))) hb3 (by first | omega | (simp; done) | (simp; omega)); have hb3s := hb3.size)
    | (at_builtin; refine wpList_app rfl rfl elemU8 bv_one (s := .tmp 23) (N := 10 + m) (L := [k0] ++ P ++ [m0] ++ l) rfl hown3 rfl (k := l) ((hl.below (B := w.heap.size) (by (repeat' (first | (with_reducible exact Below.refl _ _) | (with_reducible assumption) | (with_reducible refine Below.drew ?_) | (with_reducible refine below_drewN ?_ _) | (with_reducible refine Below.alloc ?_ ?_ _) | (with_reducible refine Below.setCell ?_ ?_ _) | omega | (simp; done) | (simp; omega)))) (Nat.le_refl _))).rd rfl rfl (by unfold maxLen; omega) (by omega) (by first | omega | (simp; done) | (simp; omega)) ?_; intro A4 c4 w4 hown4 hg4 hat4 hb4; replace hb4 := below_then' (a := w) (B := w.heap.size) (by (repeat' (first | (with_reducible exact Below.refl _ _) | (with_reducible assumption) | (with_reducible refine Below.drew ?_) | (with_reducible refine below_drewN ?_ _) | (with_reducible refine Below.alloc ?_ ?_ _) | (with_reducible refine Below.setCell ?_ ?_ _) | omega | (simp; done) | (simp; omega)))) hb4 (by first | omega | (simp; done) | (simp; omega)); have hb4s := hb4.size))
  have hL0 : Hid (([k0] ++ P ++ [m0] ++ l).length = 10 + m) := by show _ = _; simp [hp.out, hlen.out]; omega
  generalize [k0] ++ P ++ [m0] ++ l = L0 at *
  clear hown1 own0 hown2 hown3 hg2 hat2 hg3 hat3 hg4 hat4 Hput
  have hown5 := hown4.rebase (base' := w.heap.size) (by omega)
  clear hown4
  go_loopw [7] (fun v wr => ∃ k A c, k ≤ 113 - m ∧ v = .slice A (10 + m + k) c ∧ OB wr w.heap.size 5 A (10 + m + k) c (L0 ++ List.replicate k 0) ∧ Below w.heap.size w wr) (fun v _ => 123 - lenIn v)
  case atStart => exact ⟨0, A4, c4, by omega, rfl, by simpa using hown5, hb4⟩
  case round =>
    obtain ⟨k, A5, c5, hk, rfl, hown, hb⟩ := hrel
    have hbs := hb.size
    by_cases hk4 : k < 113 - m
    · have hL : Hid (L0 ++ List.replicate k 0 ++ [0] = L0 ++ List.replicate (k + 1) 0) := by
        show _ = _
        rw [List.append_assoc, List.replicate_succ']
      go_wp2_with (at_builtin; refine wpList_app rfl rfl elemU8 bv_one (s := .tmp 29) (N := 10 + m + (k + 1)) (L := L0 ++ List.replicate (k + 1) 0) rfl (hown.below (b := wr.heap.size) (by (repeat' (first | (with_reducible exact Below.refl _ _) | (with_reducible assumption) | (with_reducible refine Below.drew ?_) | (with_reducible refine below_drewN ?_ _) | (with_reducible refine Below.alloc ?_ ?_ _) | (with_reducible refine Below.setCell ?_ ?_ _) | omega | (simp; done) | (simp; omega)))) (by first | omega | (simp; done) | (simp; omega))) rfl (k := [0]) (Rd.of_block (l := [0]) (heap_top _ _ (by simp)) rfl) rfl hL.out (by unfold maxLen; omega) (by omega) (by first | omega | (simp; done) | (simp; omega)) ?_; intro A6 c6 w6 hown6 hg6 hat6 hb6; replace hb6 := below_then' (a := w) (B := w.heap.size) (by (repeat' (first | (with_reducible exact Below.refl _ _) | (with_reducible assumption) | (with_reducible refine Below.drew ?_) | (with_reducible refine below_drewN ?_ _) | (with_reducible refine Below.alloc ?_ ?_ _) | (with_reducible refine Below.setCell ?_ ?_ _) | omega | (simp; done) | (simp; omega)))) hb6 (by first | omega | (simp; done) | (simp; omega)); have hb6s := hb6.size)
      go_roundw
      case rel => exact ⟨k + 1, A6, c6, by omega, rfl, hown6, hb6⟩
      case measure => simp [lenIn]; omega
    · have hk9 : k = 113 - m := by omega
      have hB : Hid (L0 ++ List.replicate k 0 = B) := by show _ = _; rw [hbodyE.out, hk9]
      have hn9 : 10 + m + k = 123 := by omega
      rw [hB.out] at hown
      clear hk9 hL0 hown5 hb4 hk4 hB hbodyE
      generalize 10 + m + k = N0 at *
      have HN0 := Lib.hid hn9
      have hN0 : N0 ≤ 123 := by omega
      have hN1 : 123 ≤ N0 := by omega
      clear hn9
      go_wp2_with ((go_at_call 193; (with_reducible refine (Hsum.out _ _ _ _ hown.rd.rb (by unfold maxLen; omega)).mono ?_); rintro e w6 ⟨rfl, hb6⟩); replace hown := hown.below hb6 (Nat.le_refl _); replace hb6 := below_then' (a := w) (B := w.heap.size) (by (repeat' (first | (with_reducible exact Below.refl _ _) | (with_reducible assumption) | (with_reducible refine Below.drew ?_) | (with_reducible refine below_drewN ?_ _) | (with_reducible refine Below.alloc ?_ ?_ _) | (with_reducible refine Below.setCell ?_ ?_ _) | omega | (simp; done) | (simp; omega)))) hb6 (by first | omega | (simp; done) | (simp; omega)); have hb6s := hb6.size)
      clear Hsum hb hbs
      go_loopw [7, 8, 9] (fun v s i wr => ∃ j x A c, j ≤ 4 ∧ i = .int .i64 (j : Nat) ∧ s = .int .i64 (x : Nat) ∧ Hid (x = S / 256 ^ j) ∧ x < 4294967296 ∧ v = .slice A (N0 + j) c ∧ OB wr w.heap.size 5 A (N0 + j) c (B ++ tabB j (fun i => S / 256 ^ i % 256)) ∧ Below w.heap.size w wr) (fun _ _ i _ => 4 - (intOf i).toNat)
      case atStart => exact ⟨0, S, A5, c5, by omega, rfl, rfl, by show S = S / 256 ^ 0; omega, hS, rfl, by simpa [tabB] using hown, hb6⟩
      case round =>
        obtain ⟨j, x, A7, c7, hj, rfl, rfl, hx, hx2, rfl, hown7, hb7⟩ := hrel
        have hb7s := hb7.size
        by_cases hj4 : j < 4
        · have hL : Hid (B ++ tabB j (fun i => S / 256 ^ i % 256) ++ [UInt8.ofNat (x % 256)] = B ++ tabB (j + 1) (fun i => S / 256 ^ i % 256)) := by
            show _ = _
            rw [List.append_assoc, ← tabB_succ, hx.out]
          have hbv : Hid ([Value.int .u8 ((x : Int) % 256)] = [UInt8.ofNat (x % 256)].map bv) := by
            show _ = [bv (UInt8.ofNat (x % 256))]
            rw [bv_ofNat (by omega)]; rfl
          have hx3 : Hid (x / 256 = S / 256 ^ (j + 1)) := by show _ = _; rw [hx.out, Nat.div_div_eq_div_mul, Nat.pow_succ]
          clear hx
          go_wp2_with (at_builtin; refine wpList_app rfl rfl elemU8 bv_one (s := .tmp 38) (N := N0 + (j + 1)) (L := B ++ tabB (j + 1) (fun i => S / 256 ^ i % 256)) rfl (hown7.below (b := wr.heap.size) (by (repeat' (first | (with_reducible exact Below.refl _ _) | (with_reducible assumption) | (with_reducible refine Below.drew ?_) | (with_reducible refine below_drewN ?_ _) | (with_reducible refine Below.alloc ?_ ?_ _) | (with_reducible refine Below.setCell ?_ ?_ _) | omega | (simp; done) | (simp; omega)))) (by first | omega | (simp; done) | (simp; omega))) rfl (k := [UInt8.ofNat (x % 256)]) (Rd.of_block (l := [UInt8.ofNat (x % 256)]) (heap_top _ _ (by simp)) hbv.out) rfl hL.out (by unfold maxLen; omega) (by omega) (by first | omega | (simp; done) | (simp; omega)) ?_; intro A8 c8 w8 hown8 hg8 hat8 hb8; replace hb8 := below_then' (a := w) (B := w.heap.size) (by (repeat' (first | (with_reducible exact Below.refl _ _) | (with_reducible assumption) | (with_reducible refine Below.drew ?_) | (with_reducible refine below_drewN ?_ _) | (with_reducible refine Below.alloc ?_ ?_ _) | (with_reducible refine Below.setCell ?_ ?_ _) | omega | (simp; done) | (simp; omega)))) hb8 (by first | omega | (simp; done) | (simp; omega)); have hb8s := hb8.size)
          go_roundw
          case rel => exact ⟨j + 1, x / 256, A8, c8, by omega, by go_num, by go_num, hx3, by omega, rfl, hown8, hb8⟩
          case measure => simp [intOf]; omega
        · have hj9 : j = 4 := by omega
          subst hj9
          go_wp2_with (at_builtin; refine wpList_app rfl rfl elemU8 bv_one (s := .tmp 46) (N := N0 + 5) (L := R) rfl (hown7.below (b := wr.heap.size) (by (repeat' (first | (with_reducible exact Below.refl _ _) | (with_reducible assumption) | (with_reducible refine Below.drew ?_) | (with_reducible refine below_drewN ?_ _) | (with_reducible refine Below.alloc ?_ ?_ _) | (with_reducible refine Below.setCell ?_ ?_ _) | omega | (simp; done) | (simp; omega)))) (by first | omega | (simp; done) | (simp; omega))) rfl (k := [215]) (Rd.of_block (l := [215]) (heap_top _ _ (by simp)) rfl) rfl (by rw [hfin.out, List.append_assoc]) (by unfold maxLen; omega) (by omega) (by first | omega | (simp; done) | (simp; omega)) ?_; intro A8 c8 w8 hown8 hg8 hat8 hb8; replace hb8 := below_then' (a := w) (B := w.heap.size) (by (repeat' (first | (with_reducible exact Below.refl _ _) | (with_reducible assumption) | (with_reducible refine Below.drew ?_) | (with_reducible refine below_drewN ?_ _) | (with_reducible refine Below.alloc ?_ ?_ _) | (with_reducible refine Below.setCell ?_ ?_ _) | omega | (simp; done) | (simp; omega)))) hb8 (by first | omega | (simp; done) | (simp; omega)); have hb8s := hb8.size)
          go_ret
          have e9 : N0 + 5 = 128 := by rw [HN0.out]
          rw [e9] at hown8
          exact ⟨A8, c8, by show Ending.returned (.slice A8 (N0 + 5) c8) = _; rw [e9], hown8, hb8⟩

set_option maxRecDepth 100000 in
set_option maxHeartbeats 1000000 in
theorem refmake_any (kind n : Int) (A : Option Addr) (m c : Nat) (l : List UInt8) (w : World) (hn : n ≤ 9223372036854775807) (hm : m ≤ maxLen) (hl : RB w A m l) :
    Calls Tryz.prog 192 #[.int .i64 kind, .int .i64 n, .slice A m c] w fun e w' => ∃ A c, e = .returned (.tuple #[.slice A 128 c, .int .i64 (makeL kind n l).2]) ∧ OB w' w.heap.size 5 A 128 c (makeL kind n l).1 ∧ Below w.heap.size w w' := by
  unfold maxLen at hm
  have hmk : ∀ W : World, (Instr.makeSlice 22 (.int .i64 128) (.int .i64 128)).run Tryz.prog W = .ok (.slice (some ⟨W.heap.size, 0, none⟩) 128 128) (W.alloc (.cells (madeCells (Value.int .u8 0).cells 128) 5)) := run_make_one elemU8 128 (by omega) (by omega)
  have hown0 : Ow bv (w.alloc (.cells (madeCells (Value.int .u8 0).cells 128) 5)) w.heap.size 5 (some ⟨w.heap.size, 0, none⟩) 128 128 zerosL := by
    have := Ow.made (enc := bv) w 5 0 (.int .u8 0) 128 rfl (by decide)
    exact this
  generalize madeCells (Value.int .u8 0).cells 128 = Zc at *
  have hb0 : Below w.heap.size w (w.alloc (.cells Zc 5)) := (by (repeat' (first | (with_reducible exact Below.refl _ _) | (with_reducible assumption) | (with_reducible refine Below.drew ?_) | (with_reducible refine below_drewN ?_ _) | (with_reducible refine Below.alloc ?_ ?_ _) | (with_reducible refine Below.setCell ?_ ?_ _) | omega | (simp; done) | (simp; omega))))
  have Hmk : Hid (∀ W : World, (Instr.makeSlice 22 (.int .i64 128) (.int .i64 128)).run Tryz.prog W = .ok (.slice (some ⟨W.heap.size, 0, none⟩) 128 128) (W.alloc (.cells Zc 5))) := hmk
  clear hmk
  have hmk := Hmk.out
  unfold makeL
  by_cases h : kind < 1 ∨ 255 < kind ∨ n < 0
  · rw [if_pos h]
    have h' : kind < 1 ∨ (1 ≤ kind ∧ 255 < kind) ∨ (1 ≤ kind ∧ kind ≤ 255 ∧ n < 0) := by omega
    clear h
    rcases h' with h | ⟨h1, h⟩ | ⟨h1, h2, h⟩
    all_goals
      go_enter Tryz.func192, Tryz.ntmps192
      go_wp2
      go_ret2
      exact ⟨_, _, rfl, hown0, hb0⟩
  · rw [if_neg h]
    have h1 : 1 ≤ kind := by omega
    have h2 : kind ≤ 255 := by omega
    have h3 : 0 ≤ n := by omega
    clear h
    rw [hl.1]
    by_cases h4 : 113 < m
    · rw [if_pos h4]
      go_enter Tryz.func192, Tryz.ntmps192
      go_wp2
      go_ret2
      exact ⟨_, _, rfl, hown0, hb0⟩
    · rw [if_neg h4]
      have hby := fun w hl => refbytes_any kind n A m c l w h1 h2 h3 hn (by omega) hl
      generalize sealL kind.toNat n.toNat l = R at *
      have Hby := Lib.hid hby
      clear hby hown0 hb0
      go_enter Tryz.func192, Tryz.ntmps192
      go_wp2_with (go_at_call 204; (with_reducible refine (Hby.out _ hl).mono ?_); rintro e w1 ⟨A1, c1, rfl, hown1, hb1⟩)
      go_ret2
      exact ⟨_, _, rfl, hown1, hb1⟩
end Go.Proofs.YtalmdccgpigppaaGreat
namespace Go.Proofs.YtalmdccgpigppaaGreat
open Go.RowKit

/-- 's[lo:hi]' of a slice of one-cell elements. -/
theorem run_cut3 {P : Program} {t e : TypeId} {z : Value} {bytes : Nat} (hE : ElemOf P t e z 1 bytes) (g o len cap : Nat) (lo hi : Int) (L m : Nat) (hL : lo = (L : Int)) (hh : hi = ((L + m : Nat) : Int)) (hm : L + m ≤ cap) (hc : cap ≠ L) (W : World) :
    (Instr.slice t (.slice (some ⟨g, o, none⟩) len cap) (some (.int .i64 lo)) (some (.int .i64 hi)) none).run P W = .ok (.slice (some ⟨g, o + L, none⟩) m (cap - L)) W := by
  obtain ⟨ht, ⟨i, hi', _, hs, _⟩, _⟩ := hE
  subst hL hh
  have hadd : (⟨g, o, none⟩ : Addr).add L = ⟨g, o + L, none⟩ := by unfold Addr.add; split <;> simp_all
  simp [Instr.slice, run_underlying ht, Instr.sliceBounds, Instr.sliceBound, sizeOf, typeInfo, hi', hs, asIntOf, hc, hadd]
  rw [if_pos (by omega), if_pos (by omega), show ((L : Int) + (m : Int)).toNat - L = m from by omega]
theorem RB.part {w : World} {g o n : Nat} {l : List UInt8} (h : RB w (some ⟨g, o, none⟩) n l) (L m : Nat) (hm : L + m ≤ n) : RB w (some ⟨g, o + L, none⟩) m ((l.drop L).take m) := by
  refine ⟨by rw [List.length_take, List.length_drop, h.1]; omega, fun h0 => ?_⟩
  obtain ⟨b, o', e, hb, hc⟩ := h.2 (by omega)
  injection e with e
  injection e with e1 e2 _
  subst e1 e2
  refine ⟨_, _, rfl, hb, fun i hi => ?_⟩
  have := hc (L + i) (by omega)
  rw [Nat.add_assoc, this]
  unfold byteAt
  simp [List.getD_eq_getElem?_getD, hi]

def RefOpenEnd (y9 : Nat) (K : List UInt8) (q : Bool) (N : Int) (w : World) (e : Ending) (w' : World) : Prop :=
  (q = false ∧ e = .returned (.tuple #[.int .i64 0, .slice none 0 0, .int .i64 53]) ∧ Below w.heap.size w w') ∨
  (q = true ∧ ∃ A c, e = .returned (.tuple #[.int .i64 N, .slice A y9 c, .int .i64 0]) ∧ RB w' A y9 K ∧ Below w.heap.size w w')
theorem RefOpenEnd.no {y9 : Nat} {K : List UInt8} {N : Int} {w w' : World} (h : Below w.heap.size w w') : RefOpenEnd y9 K false N w (.returned (.tuple #[.int .i64 0, .slice none 0 0, .int .i64 53])) w' := .inl ⟨rfl, rfl, h⟩
theorem RefOpenEnd.yes {y9 c : Nat} {A : Option Addr} {K : List UInt8} {N : Int} {w w' : World} (h : Below w.heap.size w w') (ho : RB w' A y9 K) : RefOpenEnd y9 K true N w (.returned (.tuple #[.int .i64 N, .slice A y9 c, .int .i64 0])) w' := .inr ⟨rfl, A, c, rfl, ho, h⟩
/-- The same, and that the load is a part of the sector. -/
def RefOpenEndB (g cc y9 : Nat) (K : List UInt8) (q : Bool) (N : Int) (w : World) (e : Ending) (w' : World) : Prop :=
  (q = false ∧ e = .returned (.tuple #[.int .i64 0, .slice none 0 0, .int .i64 53]) ∧ Below w.heap.size w w') ∨
  (q = true ∧ ∃ o' c, e = .returned (.tuple #[.int .i64 N, .slice (some ⟨g, o', none⟩) y9 c, .int .i64 0]) ∧ RB w' (some ⟨g, o', none⟩) y9 K ∧ Below w.heap.size w w' ∧ y9 ≤ c ∧ c ≤ cc)
theorem RefOpenEndB.no {g cc y9 : Nat} {K : List UInt8} {N : Int} {w w' : World} (h : Below w.heap.size w w') : RefOpenEndB g cc y9 K false N w (.returned (.tuple #[.int .i64 0, .slice none 0 0, .int .i64 53])) w' := .inl ⟨rfl, rfl, h⟩
theorem RefOpenEndB.yes {g cc y9 c o' : Nat} {K : List UInt8} {N : Int} {w w' : World} (h : Below w.heap.size w w') (ho : RB w' (some ⟨g, o', none⟩) y9 K) (h1 : y9 ≤ c) (h2 : c ≤ cc) : RefOpenEndB g cc y9 K true N w (.returned (.tuple #[.int .i64 N, .slice (some ⟨g, o', none⟩) y9 c, .int .i64 0])) w' := .inr ⟨rfl, o', c, rfl, ho, h, h1, h2⟩
theorem RefOpenEndB.weak {g cc y9 : Nat} {K : List UInt8} {q : Bool} {N : Int} {w w' : World} {e : Ending} (h : RefOpenEndB g cc y9 K q N w e w') : RefOpenEnd y9 K q N w e w' := by
  rcases h with h | ⟨h1, o', c, h2, h3, h4, _⟩
  · exact .inl h
  · exact .inr ⟨h1, _, c, h2, h3, h4⟩

/-- In what order the reference looks. -/
def RefBad (l : List UInt8) (kind : Int) : Prop := (byteAt l 0 : Int) ≠ kind ∨ ((byteAt l 0 : Int) = kind ∧ byteAt l 127 ≠ 215)
theorem refopen_bad (g o c : Nat) (l : List UInt8) (kind : Int) (w : World) (hl : RB w (some ⟨g, o, none⟩) 128 l) (h : RefBad l kind) :
    Calls Tryz.prog 159 #[.slice (some ⟨g, o, none⟩) 128 c, .int .i64 kind] w fun e w' => e = .returned (.tuple #[.int .i64 0, .slice none 0 0, .int .i64 53]) ∧ w = w' := by
  obtain ⟨_, _, e0, _, c0⟩ := hl.at_ (k := 0) (by omega)
  injection e0 with e0
  injection e0 with e1 e2 _
  subst e1 e2
  rw [Nat.add_zero] at c0
  obtain ⟨_, _, e0, _, c127⟩ := hl.at_ (k := 127) (by omega)
  injection e0 with e0
  injection e0 with e1 e2 _
  subst e1 e2
  have b0 := byteAt_lt l 0
  have b127 := byteAt_lt l 127
  unfold RefBad at h
  generalize byteAt l 0 = y0 at *
  generalize byteAt l 127 = y127 at *
  rcases h with h | ⟨h, h2⟩
  · have t1 : (((y0 : Nat) : Int) != kind) = true := by rw [bne_iff_ne]; exact h
    clear h
    go_enter Tryz.func159, Tryz.ntmps159
    go_wp2
    go_ret3
    exact ⟨rfl, rfl⟩
  · have t1 : (((y0 : Nat) : Int) != kind) = false := by rw [h]; simp
    have t2 : (((y127 : Nat) : Int) != 215) = true := by rw [bne_iff_ne]; omega
    clear h h2
    go_enter Tryz.func159, Tryz.ntmps159
    go_wp2
    go_ret3
    exact ⟨rfl, rfl⟩

set_option maxRecDepth 100000 in
set_option maxHeartbeats 2000000 in
theorem refopen_mainB (g o c : Nat) (l : List UInt8) (kind : Int) (w : World) (hl : RB w (some ⟨g, o, none⟩) 128 l) (hc : 128 ≤ c) (h : ¬ RefBad l kind) :
    Calls Tryz.prog 159 #[.slice (some ⟨g, o, none⟩) 128 c, .int .i64 kind] w (RefOpenEndB g c (byteAt l 9) (openLoad l) (opens l kind) (sg (openNum l)) w) := by
  obtain ⟨_, _, e0, _, c0⟩ := hl.at_ (k := 0) (by omega)
  injection e0 with e0
  injection e0 with e1 e2 _
  subst e1 e2
  rw [Nat.add_zero] at c0
  obtain ⟨_, _, e0, _, c127⟩ := hl.at_ (k := 127) (by omega)
  injection e0 with e0
  injection e0 with e1 e2 _
  subst e1 e2
  obtain ⟨_, _, e0, hbl, c9⟩ := hl.at_ (k := 9) (by omega)
  injection e0 with e0
  injection e0 with e1 e2 _
  subst e1 e2
  have hl1 : RB w (some ⟨g, o + 1, none⟩) 8 ((l.drop 1).take 8) := hl.part 1 8 (by omega)
  have hl10 : byteAt l 9 ≤ 113 → RB w (some ⟨g, o + 10, none⟩) (byteAt l 9) (openLoad l) := fun h => hl.part 10 (byteAt l 9) (by omega)
  have b0 := byteAt_lt l 0
  have b9 := byteAt_lt l 9
  have b127 := byteAt_lt l 127
  have h0 : (byteAt l 0 : Int) = kind := by unfold RefBad at h; omega
  have h127 : byteAt l 127 = 215 := by unfold RefBad at h; omega
  have t1 : (((byteAt l 0 : Nat) : Int) != kind) = false := by rw [h0]; simp
  have t2 : (((byteAt l 127 : Nat) : Int) != 215) = false := by rw [h127]; rfl
  have hget : ∀ (A : Option Addr) (c : Nat) (w : World), RB w A 8 ((l.drop 1).take 8) → Calls Tryz.prog 141 #[.slice A 8 c] w fun e w' => e = .returned (.tuple #[.int .i64 (sg (openNum l)), .int .i64 0]) ∧ Below w.heap.size w w' := fun A c w h => refget_any A c _ w h
  have hN := openNum_lt l
  have hsg : openNum l < 9223372036854775808 → sg (openNum l) = (openNum l : Int) := fun h => by unfold sg; rw [if_pos h]
  have hsg2 : ¬ openNum l < 9223372036854775808 → sg (openNum l) < 0 := fun h => by unfold sg; rw [if_neg h]; omega
  have hsb := sg_bd hN
  have hby : 1 ≤ kind → kind ≤ 255 → openNum l < 9223372036854775808 → byteAt l 9 ≤ 113 → ∀ (A : Option Addr) (c : Nat) (w : World), RB w A (byteAt l 9) (openLoad l) →
      Calls Tryz.prog 204 #[.int .i64 kind, .int .i64 (sg (openNum l)), .slice A (byteAt l 9) c] w fun e w' => ∃ A c, e = .returned (.slice A 128 c) ∧ OB w' w.heap.size 5 A 128 c (sealL kind.toNat (openNum l) (openLoad l)) ∧ Below w.heap.size w w' := fun k1 k2 k3 k4 A c w hr => by
    have := refbytes_any kind (sg (openNum l)) A (byteAt l 9) c (openLoad l) w k1 k2 (by rw [hsg k3]; omega) (by omega) k4 hr
    have e : (sg (openNum l)).toNat = openNum l := by rw [hsg k3]; exact Int.toNat_natCast _
    rwa [e] at this
  have hs1 : ∀ W : World, (Instr.slice 22 (.slice (some ⟨g, o, none⟩) 128 c) (some (.int .i64 1)) (some (.int .i64 9)) none).run Tryz.prog W = .ok (.slice (some ⟨g, o + 1, none⟩) 8 (c - 1)) W := fun W => run_cut3 elemU8 g o 128 c _ _ 1 8 rfl rfl (by omega) (by omega) W
  have hs2 : byteAt l 9 ≤ 113 → ∀ W : World, (Instr.slice 22 (.slice (some ⟨g, o, none⟩) 128 c) (some (.int .i64 10)) (some (.int .i64 ((10 : Int) + (byteAt l 9 : Nat)))) none).run Tryz.prog W = .ok (.slice (some ⟨g, o + 10, none⟩) (byteAt l 9) (c - 10)) W := fun h W => run_cut3 elemU8 g o 128 c _ _ 10 (byteAt l 9) rfl (by omega) (by omega) (by omega) W
  have hq : opens l kind = (decide (1 ≤ kind) && decide (kind ≤ 255) && decide (openNum l < 9223372036854775808) && decide (byteAt l 9 ≤ 113) && decide (sealL kind.toNat (openNum l) (openLoad l) = l)) := rfl
  have hRl : 1 ≤ kind → kind ≤ 255 → byteAt l 9 ≤ 113 → (sealL kind.toNat (openNum l) (openLoad l)).length = 128 := fun _ _ h9 => sealL_len _ _ _ (by rw [openLoad_len hl.1 h9]; exact h9)
  have hsame : ∀ (A B : Option Addr) (c d : Nat) (R : List UInt8) (w : World), RB w A 128 R → RB w B 128 l → Calls Tryz.prog 16 #[.slice A 128 c, .slice B 128 d] w fun e w' => e = .returned (.bool (decide (R = l))) ∧ ∃ q, w' = w.drewN q := fun A B c d R w ha hb => same_any A B 128 128 c d R l w ha hb (by unfold maxLen; omega)
  generalize opens l kind = q at *
  generalize sealL kind.toNat (openNum l) (openLoad l) = R at *
  generalize hn : openNum l = N at *
  generalize openLoad l = K at *
  generalize byteAt l 0 = y0 at *
  generalize byteAt l 9 = y9 at *
  generalize byteAt l 127 = y127 at *
  have HL := Lib.hid hl
  clear h h127 hl hn
  have hcs : kind < 1 ∨ (1 ≤ kind ∧ ¬ N < 9223372036854775808) ∨ (1 ≤ kind ∧ N < 9223372036854775808 ∧ 113 < y9) ∨ (1 ≤ kind ∧ N < 9223372036854775808 ∧ y9 ≤ 113) := by omega
  have hk2 : kind ≤ 255 := by omega
  have H0 := Lib.hid h0
  clear h0
  rcases hcs with h1 | ⟨h1, h2⟩ | ⟨h1, h2, h3⟩ | ⟨h1, h2, h3⟩
  · have hqf : q = false := by rw [hq]; simp; intro h; omega
    clear hq hby hs2 hsg hsg2 hl10 hRl hsame
    subst hqf
    go_enter Tryz.func159, Tryz.ntmps159
    go_wp2_with ((go_at_call 141; (with_reducible refine (hget _ _ _ hl1).mono ?_); rintro e w1 ⟨rfl, hB1⟩); have c9' := (hB1.cell (p := ⟨g, o + 9, none⟩) hbl).trans c9)
    go_ret3
    exact RefOpenEndB.no hB1
  · have hqf : q = false := by rw [hq]; simp; intro _ _ h; omega
    have hneg := hsg2 h2
    clear hq hby hs2 hsg hsg2 hl10 hRl hsame h2
    subst hqf
    go_enter Tryz.func159, Tryz.ntmps159
    go_wp2_with ((go_at_call 141; (with_reducible refine (hget _ _ _ hl1).mono ?_); rintro e w1 ⟨rfl, hB1⟩); have c9' := (hB1.cell (p := ⟨g, o + 9, none⟩) hbl).trans c9)
    go_ret3
    exact RefOpenEndB.no hB1
  · have hqf : q = false := by rw [hq]; simp; intro _ _ _ h; omega
    have hpos : 0 ≤ sg N := by rw [hsg h2]; omega
    clear hq hby hs2 hsg hsg2 hl10 hRl hsame
    subst hqf
    go_enter Tryz.func159, Tryz.ntmps159
    go_wp2_with ((go_at_call 141; (with_reducible refine (hget _ _ _ hl1).mono ?_); rintro e w1 ⟨rfl, hB1⟩); have c9' := (hB1.cell (p := ⟨g, o + 9, none⟩) hbl).trans c9)
    go_ret3
    exact RefOpenEndB.no hB1
  · have hqb : q = decide (R = l) := by rw [hq]; simp [h1, hk2, h2, h3]
    have hpos : 0 ≤ sg N := by rw [hsg h2]; omega
    have hs2' := hs2 h3
    have hK := hl10 h3
    have hby' := Lib.hid (hby h1 hk2 h2 h3)
    clear hq hby hs2 hsg hsg2 hl10 hRl
    have hsame' := Lib.hid (fun A B c d w => hsame A B c d R w)
    clear hsame
    generalize decide (R = l) = b at *
    subst hqb
    cases q
    all_goals
      go_enter Tryz.func159, Tryz.ntmps159
      go_wp2_with (first
        | ((go_at_call 141; (with_reducible refine (hget _ _ _ hl1).mono ?_); rintro e w1 ⟨rfl, hB1⟩); have c9' := (hB1.cell (p := ⟨g, o + 9, none⟩) hbl).trans c9; have hK1 := hK.below hB1 (Nat.le_refl _); have hl2 := HL.out.below hB1 (Nat.le_refl _))
        | ((go_at_call 204; (with_reducible refine (hby'.out _ _ _ hK1).mono ?_); rintro e w2 ⟨A2, c2, rfl, own2, hB2⟩); replace hK1 := hK1.below hB2 (Nat.le_refl _); replace hl2 := hl2.below hB2 (Nat.le_refl _); replace hB2 := below_then hB1 hB2 hB1.size)
        | (go_at_call 16; (with_reducible refine (hsame'.out _ _ _ _ _ own2.rd.rb hl2).mono ?_); rintro e w3 ⟨rfl, q3, rfl⟩))
      go_ret3
    · exact RefOpenEndB.no (below_drewN hB2 q3)
    · exact RefOpenEndB.yes (below_drewN hB2 q3) hK1 (by omega) (by omega)
theorem refopen_anyB (g o c : Nat) (l : List UInt8) (kind : Int) (w : World) (hl : RB w (some ⟨g, o, none⟩) 128 l) (hc : 128 ≤ c) :
    Calls Tryz.prog 159 #[.slice (some ⟨g, o, none⟩) 128 c, .int .i64 kind] w (RefOpenEndB g c (byteAt l 9) (openLoad l) (opens l kind) (sg (openNum l)) w) := by
  by_cases h : RefBad l kind
  · have hf : opens l kind = false := by
      cases ho : opens l kind with
      | false => rfl
      | true =>
        have h1 := opens_kind ho
        unfold RefBad at h
        omega
    rw [hf]
    exact (refopen_bad g o c l kind w hl h).mono fun e w' ⟨he, hw⟩ => .inl ⟨rfl, he, hw ▸ Below.refl _ _⟩
  · exact refopen_mainB g o c l kind w hl hc h
theorem refopen_any (g o c : Nat) (l : List UInt8) (kind : Int) (w : World) (hl : RB w (some ⟨g, o, none⟩) 128 l) (hc : 128 ≤ c) :
    Calls Tryz.prog 159 #[.slice (some ⟨g, o, none⟩) 128 c, .int .i64 kind] w (RefOpenEnd (byteAt l 9) (openLoad l) (opens l kind) (sg (openNum l)) w) := (refopen_anyB g o c l kind w hl hc).mono fun _ _ h => h.weak
end Go.Proofs.YtalmdccgpigppaaGreat
