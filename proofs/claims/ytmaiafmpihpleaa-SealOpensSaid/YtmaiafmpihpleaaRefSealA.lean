/- The reference's sealed sectors: Bytes, Make. -/
import Derived.Test.YtmaiafmpihpleaaSealLawA
import Derived.Test.YtmaiafmpihpleaaRefCrc
import Derived.Test.YtmaiafmpihpleaaRefNumB
import Derived.Test.YtmaiafmpihpleaaRefNumG
namespace Go.Proofs.Ytmaiafmpihpleaa
open Go.RowKit

/-- The bytes of the sum, so many. -/
theorem tabB_div (S k : Nat) : tabB k (fun i => S / 256 ^ i % 256) ++ [UInt8.ofNat (S / 256 ^ k % 256)] = tabB (k + 1) (fun i => S / 256 ^ i % 256) := tabB_succ k _

set_option maxRecDepth 100000 in
set_option maxHeartbeats 1000000 in
theorem refbytes_any (kind n : Int) (A : Option Addr) (m c : Nat) (l : List UInt8) (w : World) (h1 : 1 ≤ kind) (h2 : kind ≤ 255) (h3 : 0 ≤ n) (hn : n ≤ 9223372036854775807) (h4 : m ≤ 113) (hl : RB w A m l) :
    Calls Try.prog 65 #[.int .i64 kind, .int .i64 n, .slice A m c] w fun e w' => ∃ A c, e = .returned (.slice A 128 c) ∧ OB w' w.heap.size 5 A 128 c (sealL kind.toNat n.toNat l) ∧ Below w.heap.size w w' := by
  have hput := fun w => refput_any n w (by omega) hn
  rw [show un n = n.toNat from by unfold un; omega] at hput
  have hbody := sealBody_len kind.toNat n.toNat l (by rw [hl.1]; exact h4)
  have hlen := Lib.hid hl.1
  have e1 : Hid ([.int .u8 kind] = [UInt8.ofNat kind.toNat].map bv) := by
    show _ = [bv (UInt8.ofNat kind.toNat)]
    rw [bv_ofNat (by omega)]; congr 2; omega
  have e2 : Hid ([.int .u8 (m : Int)] = [UInt8.ofNat m].map bv) := by
    show _ = [bv (UInt8.ofNat m)]
    rw [bv_ofNat (by omega)]
  have hp := Lib.hid (putL_len n.toNat)
  have hS := crcSum_lt [sealBody kind.toNat n.toNat l]
  have hsum := fun A n' d w hl hn => sum_ref A n' d (sealBody kind.toNat n.toNat l) w hl hn
  have hfin : Hid (sealL kind.toNat n.toNat l = sealBody kind.toNat n.toNat l ++ (tabB 4 (fun i => crcSum [sealBody kind.toNat n.toNat l] / 256 ^ i % 256) ++ [215])) := rfl
  have hbodyE : Hid (sealBody kind.toNat n.toNat l = ([UInt8.ofNat kind.toNat] ++ putL n.toNat ++ [UInt8.ofNat m] ++ l) ++ List.replicate (113 - m) 0) := by
    show _ = _
    simp [sealBody, hl.1]
  generalize sealL kind.toNat n.toNat l = R at *
  generalize sealBody kind.toNat n.toNat l = B at *
  have HB := Lib.hid hbody
  clear hbody
  generalize hP : putL n.toNat = P at *
  generalize hK : UInt8.ofNat kind.toNat = k0 at *
  generalize hM : UInt8.ofNat m = m0 at *
  clear hP hK hM
  generalize crcSum [B] = S at *
  have Hput := Lib.hid hput
  have Hsum := Lib.hid hsum
  clear hput hsum
  go_enter Try.func65, Try.ntmps65
  go_wp2_with (first
    | ((go_at_call 88; (with_reducible refine (Hput.out _).mono ?_); rintro e w1 ⟨A1, c1, rfl, hown1, hb1⟩); have own0 : Ow bv w1 w.heap.size 5 (some ⟨w.heap.size, 0, none⟩) 1 1 [k0] := (Ow.new w 5 #[.int .u8 kind] [k0] e1.out (by unfold maxLen; simp)).below hb1 (Nat.le_refl _); replace hb1 := below_then' (a := w) (B := w.heap.size) (by (repeat' (first | (with_reducible exact Below.refl _ _) | (with_reducible assumption) | (with_reducible refine Below.drew ?_) | (with_reducible refine below_drewN ?_ _) | (with_reducible refine Below.alloc ?_ ?_ _) | (with_reducible refine Below.setCell ?_ ?_ _) | omega | (simp; done) | (simp; omega)))) hb1 (by first | omega | (simp; done) | (simp; omega)); have hb1s := hb1.size)
    | (at_builtin; refine wpList_app rfl rfl elemU8 bv_one (s := .tmp 13) (N := 9) (L := [k0] ++ P) rfl own0 rfl (k := P) hown1.rd (by omega) rfl (by unfold maxLen; omega) (by omega) hb1s ?_; intro A2 c2 w2 hown2 hg2 hat2 hb2; replace hb2 := below_then' (a := w) (B := w.heap.size) (by (repeat' (first | (with_reducible exact Below.refl _ _) | (with_reducible assumption) | (with_reducible refine Below.drew ?_) | (with_reducible refine below_drewN ?_ _) | (with_reducible refine Below.alloc ?_ ?_ _) | (with_reducible refine Below.setCell ?_ ?_ _) | omega | (simp; done) | (simp; omega)))) hb2 (by first | omega | (simp; done) | (simp; omega)); have hb2s := hb2.size)
    | (at_builtin; refine wpList_app rfl rfl elemU8 bv_one (s := .tmp 17) (N := 10) (L := [k0] ++ P ++ [m0]) rfl (hown2.below (b := w2.heap.size) (by (repeat' (first | (with_reducible exact Below.refl _ _) | (with_reducible assumption) | (with_reducible refine Below.drew ?_) | (with_reducible refine below_drewN ?_ _) | (with_reducible refine Below.alloc ?_ ?_ _) | (with_reducible refine Below.setCell ?_ ?_ _) | omega | (simp; done) | (simp; omega)))) (by first | omega | (simp; done) | (simp; omega))) rfl (k := [m0]) (Rd.of_block (l := [m0]) (heap_top _ _ (by simp)) e2.out) rfl rfl (by unfold maxLen; omega) (by omega) (by first | omega | (simp; done) | (simp; omega)) ?_; intro A3 c3 w3 hown3 hg3 hat3 hb3; replace hb3 := below_then' (a := w) (B := w.heap.size) (by (repeat' (first | (with_reducible exact Below.refl _ _) | (with_reducible assumption) | (with_reducible refine Below.drew ?_) | (with_reducible refine below_drewN ?_ _) | (with_reducible refine Below.alloc ?_ ?_ _) | (with_reducible refine Below.setCell ?_ ?_ _) | omega | (simp; done) | (simp; omega)))) hb3 (by first | omega | (simp; done) | (simp; omega)); have hb3s := hb3.size)
    | (at_builtin; refine wpList_app rfl rfl elemU8 bv_one (s := .tmp 23) (N := 10 + m) (L := [k0] ++ P ++ [m0] ++ l) rfl hown3 rfl (k := l) ((hl.below (B := w.heap.size) (by (repeat' (first | (with_reducible exact Below.refl _ _) | (with_reducible assumption) | (with_reducible refine Below.drew ?_) | (with_reducible refine below_drewN ?_ _) | (with_reducible refine Below.alloc ?_ ?_ _) | (with_reducible refine Below.setCell ?_ ?_ _) | omega | (simp; done) | (simp; omega)))) (Nat.le_refl _))).rd rfl rfl (by unfold maxLen; omega) (by omega) (by first | omega | (simp; done) | (simp; omega)) ?_; intro A4 c4 w4 hown4 hg4 hat4 hb4; replace hb4 := below_then' (a := w) (B := w.heap.size) (by (repeat' (first | (with_reducible exact Below.refl _ _) | (with_reducible assumption) | (with_reducible refine Below.drew ?_) | (with_reducible refine below_drewN ?_ _) | (with_reducible refine Below.alloc ?_ ?_ _) | (with_reducible refine Below.setCell ?_ ?_ _) | omega | (simp; done) | (simp; omega)))) hb4 (by first | omega | (simp; done) | (simp; omega)); have hb4s := hb4.size))
  have hL0 : Hid (([k0] ++ P ++ [m0] ++ l).length = 10 + m) := by show _ = _; simp [hp.out, hlen.out]; omega
  generalize [k0] ++ P ++ [m0] ++ l = L0 at *
  clear hown1 own0 hown2 hown3 hg2 hat2 hg3 hat3 hg4 hat4 Hput
  have hown5 := hown4.rebase (base' := w.heap.size) (by omega)
  clear hown4
  go_loopw [7] (fun v wr => ∃ k A c, k ≤ 113 - m ∧ v = .slice A (10 + m + k) c ∧ OB wr w.heap.size 5 A (10 + m + k) c (L0 ++ List.replicate k 0) ∧ Below w.heap.size w wr) (fun v _ => 123 - lenIn v)
  case atStart => exact ⟨0, A4, c4, by omega, rfl, by simpa using hown5, hb4⟩
  case round =>
    obtain ⟨k, A5, c5, hk, rfl, hown, hb⟩ := hrel
    have hbs := hb.size
    by_cases hk4 : k < 113 - m
    · have hL : Hid (L0 ++ List.replicate k 0 ++ [0] = L0 ++ List.replicate (k + 1) 0) := by
        show _ = _
        rw [List.append_assoc, List.replicate_succ']
      go_wp2_with (at_builtin; refine wpList_app rfl rfl elemU8 bv_one (s := .tmp 29) (N := 10 + m + (k + 1)) (L := L0 ++ List.replicate (k + 1) 0) rfl (hown.below (b := wr.heap.size) (by (repeat' (first | (with_reducible exact Below.refl _ _) | (with_reducible assumption) | (with_reducible refine Below.drew ?_) | (with_reducible refine below_drewN ?_ _) | (with_reducible refine Below.alloc ?_ ?_ _) | (with_reducible refine Below.setCell ?_ ?_ _) | omega | (simp; done) | (simp; omega)))) (by first | omega | (simp; done) | (simp; omega))) rfl (k := [0]) (Rd.of_block (l := [0]) (heap_top _ _ (by simp)) rfl) rfl hL.out (by unfold maxLen; omega) (by omega) (by first | omega | (simp; done) | (simp; omega)) ?_; intro A6 c6 w6 hown6 hg6 hat6 hb6; replace hb6 := below_then' (a := w) (B := w.heap.size) (by (repeat' (first | (with_reducible exact Below.refl _ _) | (with_reducible assumption) | (with_reducible refine Below.drew ?_) | (with_reducible refine below_drewN ?_ _) | (with_reducible refine Below.alloc ?_ ?_ _) | (with_reducible refine Below.setCell ?_ ?_ _) | omega | (simp; done) | (simp; omega)))) hb6 (by first | omega | (simp; done) | (simp; omega)); have hb6s := hb6.size)
      go_roundw
      case rel => exact ⟨k + 1, A6, c6, by omega, rfl, hown6, hb6⟩
      case measure => simp [lenIn]; omega
    · have hk9 : k = 113 - m := by omega
      have hB : Hid (L0 ++ List.replicate k 0 = B) := by show _ = _; rw [hbodyE.out, hk9]
      have hn9 : 10 + m + k = 123 := by omega
      rw [hB.out] at hown
      clear hk9 hL0 hown5 hb4 hk4 hB hbodyE
      generalize 10 + m + k = N0 at *
      have HN0 := Lib.hid hn9
      have hN0 : N0 ≤ 123 := by omega
      have hN1 : 123 ≤ N0 := by omega
      clear hn9
      go_wp2_with ((go_at_call 89; (with_reducible refine (Hsum.out _ _ _ _ hown.rd.rb (by unfold maxLen; omega)).mono ?_); rintro e w6 ⟨rfl, hb6⟩); replace hown := hown.below hb6 (Nat.le_refl _); replace hb6 := below_then' (a := w) (B := w.heap.size) (by (repeat' (first | (with_reducible exact Below.refl _ _) | (with_reducible assumption) | (with_reducible refine Below.drew ?_) | (with_reducible refine below_drewN ?_ _) | (with_reducible refine Below.alloc ?_ ?_ _) | (with_reducible refine Below.setCell ?_ ?_ _) | omega | (simp; done) | (simp; omega)))) hb6 (by first | omega | (simp; done) | (simp; omega)); have hb6s := hb6.size)
      clear Hsum hb hbs
      go_loopw [7, 8, 9] (fun v s i wr => ∃ j x A c, j ≤ 4 ∧ i = .int .i64 (j : Nat) ∧ s = .int .i64 (x : Nat) ∧ Hid (x = S / 256 ^ j) ∧ x < 4294967296 ∧ v = .slice A (N0 + j) c ∧ OB wr w.heap.size 5 A (N0 + j) c (B ++ tabB j (fun i => S / 256 ^ i % 256)) ∧ Below w.heap.size w wr) (fun _ _ i _ => 4 - (intOf i).toNat)
      case atStart => exact ⟨0, S, A5, c5, by omega, rfl, rfl, by show S = S / 256 ^ 0; omega, hS, rfl, by simpa [tabB] using hown, hb6⟩
      case round =>
        obtain ⟨j, x, A7, c7, hj, rfl, rfl, hx, hx2, rfl, hown7, hb7⟩ := hrel
        have hb7s := hb7.size
        by_cases hj4 : j < 4
        · have hL : Hid (B ++ tabB j (fun i => S / 256 ^ i % 256) ++ [UInt8.ofNat (x % 256)] = B ++ tabB (j + 1) (fun i => S / 256 ^ i % 256)) := by
            show _ = _
            rw [List.append_assoc, ← tabB_succ, hx.out]
          have hbv : Hid ([Value.int .u8 ((x : Int) % 256)] = [UInt8.ofNat (x % 256)].map bv) := by
            show _ = [bv (UInt8.ofNat (x % 256))]
            rw [bv_ofNat (by omega)]; rfl
          have hx3 : Hid (x / 256 = S / 256 ^ (j + 1)) := by show _ = _; rw [hx.out, Nat.div_div_eq_div_mul, Nat.pow_succ]
          clear hx
          go_wp2_with (at_builtin; refine wpList_app rfl rfl elemU8 bv_one (s := .tmp 38) (N := N0 + (j + 1)) (L := B ++ tabB (j + 1) (fun i => S / 256 ^ i % 256)) rfl (hown7.below (b := wr.heap.size) (by (repeat' (first | (with_reducible exact Below.refl _ _) | (with_reducible assumption) | (with_reducible refine Below.drew ?_) | (with_reducible refine below_drewN ?_ _) | (with_reducible refine Below.alloc ?_ ?_ _) | (with_reducible refine Below.setCell ?_ ?_ _) | omega | (simp; done) | (simp; omega)))) (by first | omega | (simp; done) | (simp; omega))) rfl (k := [UInt8.ofNat (x % 256)]) (Rd.of_block (l := [UInt8.ofNat (x % 256)]) (heap_top _ _ (by simp)) hbv.out) rfl hL.out (by unfold maxLen; omega) (by omega) (by first | omega | (simp; done) | (simp; omega)) ?_; intro A8 c8 w8 hown8 hg8 hat8 hb8; replace hb8 := below_then' (a := w) (B := w.heap.size) (by (repeat' (first | (with_reducible exact Below.refl _ _) | (with_reducible assumption) | (with_reducible refine Below.drew ?_) | (with_reducible refine below_drewN ?_ _) | (with_reducible refine Below.alloc ?_ ?_ _) | (with_reducible refine Below.setCell ?_ ?_ _) | omega | (simp; done) | (simp; omega)))) hb8 (by first | omega | (simp; done) | (simp; omega)); have hb8s := hb8.size)
          go_roundw
          case rel => exact ⟨j + 1, x / 256, A8, c8, by omega, by go_num, by go_num, hx3, by omega, rfl, hown8, hb8⟩
          case measure => simp [intOf]; omega
        · have hj9 : j = 4 := by omega
          subst hj9
          go_wp2_with (at_builtin; refine wpList_app rfl rfl elemU8 bv_one (s := .tmp 46) (N := N0 + 5) (L := R) rfl (hown7.below (b := wr.heap.size) (by (repeat' (first | (with_reducible exact Below.refl _ _) | (with_reducible assumption) | (with_reducible refine Below.drew ?_) | (with_reducible refine below_drewN ?_ _) | (with_reducible refine Below.alloc ?_ ?_ _) | (with_reducible refine Below.setCell ?_ ?_ _) | omega | (simp; done) | (simp; omega)))) (by first | omega | (simp; done) | (simp; omega))) rfl (k := [215]) (Rd.of_block (l := [215]) (heap_top _ _ (by simp)) rfl) rfl (by rw [hfin.out, List.append_assoc]) (by unfold maxLen; omega) (by omega) (by first | omega | (simp; done) | (simp; omega)) ?_; intro A8 c8 w8 hown8 hg8 hat8 hb8; replace hb8 := below_then' (a := w) (B := w.heap.size) (by (repeat' (first | (with_reducible exact Below.refl _ _) | (with_reducible assumption) | (with_reducible refine Below.drew ?_) | (with_reducible refine below_drewN ?_ _) | (with_reducible refine Below.alloc ?_ ?_ _) | (with_reducible refine Below.setCell ?_ ?_ _) | omega | (simp; done) | (simp; omega)))) hb8 (by first | omega | (simp; done) | (simp; omega)); have hb8s := hb8.size)
          go_ret
          have e9 : N0 + 5 = 128 := by rw [HN0.out]
          rw [e9] at hown8
          exact ⟨A8, c8, by show Ending.returned (.slice A8 (N0 + 5) c8) = _; rw [e9], hown8, hb8⟩

set_option maxRecDepth 100000 in
set_option maxHeartbeats 1000000 in
theorem refmake_any (kind n : Int) (A : Option Addr) (m c : Nat) (l : List UInt8) (w : World) (hn : n ≤ 9223372036854775807) (hm : m ≤ maxLen) (hl : RB w A m l) :
    Calls Try.prog 17 #[.int .i64 kind, .int .i64 n, .slice A m c] w fun e w' => ∃ A c, e = .returned (.tuple #[.slice A 128 c, .int .i64 (makeL kind n l).2]) ∧ OB w' w.heap.size 5 A 128 c (makeL kind n l).1 ∧ Below w.heap.size w w' := by
  unfold maxLen at hm
  have hmk : ∀ W : World, (Instr.makeSlice 22 (.int .i64 128) (.int .i64 128)).run Try.prog W = .ok (.slice (some ⟨W.heap.size, 0, none⟩) 128 128) (W.alloc (.cells (madeCells (Value.int .u8 0).cells 128) 5)) := run_make_one elemU8 128 (by omega) (by omega)
  have hown0 : Ow bv (w.alloc (.cells (madeCells (Value.int .u8 0).cells 128) 5)) w.heap.size 5 (some ⟨w.heap.size, 0, none⟩) 128 128 zerosL := by
    have := Ow.made (enc := bv) w 5 0 (.int .u8 0) 128 rfl (by decide)
    exact this
  generalize madeCells (Value.int .u8 0).cells 128 = Zc at *
  have hb0 : Below w.heap.size w (w.alloc (.cells Zc 5)) := (by (repeat' (first | (with_reducible exact Below.refl _ _) | (with_reducible assumption) | (with_reducible refine Below.drew ?_) | (with_reducible refine below_drewN ?_ _) | (with_reducible refine Below.alloc ?_ ?_ _) | (with_reducible refine Below.setCell ?_ ?_ _) | omega | (simp; done) | (simp; omega))))
  have Hmk : Hid (∀ W : World, (Instr.makeSlice 22 (.int .i64 128) (.int .i64 128)).run Try.prog W = .ok (.slice (some ⟨W.heap.size, 0, none⟩) 128 128) (W.alloc (.cells Zc 5))) := hmk
  clear hmk
  have hmk := Hmk.out
  unfold makeL
  by_cases h : kind < 1 ∨ 255 < kind ∨ n < 0
  · rw [if_pos h]
    have h' : kind < 1 ∨ (1 ≤ kind ∧ 255 < kind) ∨ (1 ≤ kind ∧ kind ≤ 255 ∧ n < 0) := by omega
    clear h
    rcases h' with h | ⟨h1, h⟩ | ⟨h1, h2, h⟩
    all_goals
      go_enter Try.func17, Try.ntmps17
      go_wp2
      go_ret2
      exact ⟨_, _, rfl, hown0, hb0⟩
  · rw [if_neg h]
    have h1 : 1 ≤ kind := by omega
    have h2 : kind ≤ 255 := by omega
    have h3 : 0 ≤ n := by omega
    clear h
    rw [hl.1]
    by_cases h4 : 113 < m
    · rw [if_pos h4]
      go_enter Try.func17, Try.ntmps17
      go_wp2
      go_ret2
      exact ⟨_, _, rfl, hown0, hb0⟩
    · rw [if_neg h4]
      have hby := fun w hl => refbytes_any kind n A m c l w h1 h2 h3 hn (by omega) hl
      generalize sealL kind.toNat n.toNat l = R at *
      have Hby := Lib.hid hby
      clear hby hown0 hb0
      go_enter Try.func17, Try.ntmps17
      go_wp2_with (go_at_call 65; (with_reducible refine (Hby.out _ hl).mono ?_); rintro e w1 ⟨A1, c1, rfl, hown1, hb1⟩)
      go_ret2
      exact ⟨_, _, rfl, hown1, hb1⟩
end Go.Proofs.Ytmaiafmpihpleaa
