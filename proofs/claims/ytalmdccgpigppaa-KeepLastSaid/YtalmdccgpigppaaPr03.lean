/- Parts: NumB. -/
import Derived.Test.YtalmdccgpigppaaPr02
namespace Go.Proofs.Ytalmdccgpigppaa
open Go.RowKit

theorem digL_lt {f n : Nat} (h : n < 128) : digL f n = [UInt8.ofNat n] := by
  cases f with
  | zero => rfl
  | succ f => unfold digL; rw [if_pos h]

set_option maxRecDepth 100000 in
theorem digits_u (u : Nat) (w : World) (hu : u < 18446744073709551616) : Calls Try.prog 115 #[.int .u64 u] w fun e w' => ∃ A c, e = .returned (.slice A (digL 9 u).length c) ∧ OB w' w.heap.size 5 A (digL 9 u).length c (digL 9 u) ∧ Below w.heap.size w w' := by
  generalize hz : digL 9 u = z at *
  have Hz := Lib.hid hz
  clear hz
  go_enter Try.func115, Try.ntmps115
  go_wp2
  go_loopw [0, 3] (fun nn v wr => ∃ f m A c L, Hid (f + L.length = 9) ∧ nn = .int .u64 (m : Nat) ∧ v = .slice A L.length c ∧ Hid (L ++ digL f m = z) ∧ Hid (m < 128 ^ (f + 1)) ∧ m < 18446744073709551616 ∧ OB wr w.heap.size 5 A L.length c L ∧ Below w.heap.size w wr) (fun nn _ _ => (intOf nn).toNat)
  case atStart => exact ⟨9, u, none, 0, [], rfl, rfl, rfl, Hz, by show u < _; omega, hu, Ow.nil _ _ _ _, Below.refl _ _⟩
  case round =>
    obtain ⟨f, m, A, c, L, hf, rfl, rfl, hL, hm, hm64, hown, hb⟩ := hrel
    have hbs := hb.size
    by_cases hbig : 128 ≤ m
    · obtain ⟨f, rfl⟩ : ∃ k, f = k + 1 := by
        cases f with
        | zero => have := hm.out; omega
        | succ f => exact ⟨f, rfl⟩
      have hL2 : Hid ((L ++ [UInt8.ofNat (m % 128 + 128)]) ++ digL f (m / 128) = z) := by
        show _ = _
        rw [← hL.out]; conv => rhs; unfold digL
        rw [if_neg (by omega)]; simp
      have hm2 : Hid (m / 128 < 128 ^ (f + 1)) := by
        show m / 128 < _
        have := hm.out
        rw [Nat.pow_succ] at this
        omega
      have hf9 : L.length ≤ 8 := by have := hf.out; omega
      have hlen : (L ++ [UInt8.ofNat (m % 128 + 128)]).length = L.length + 1 := by simp
      have hbv := Lib.hid (bv_ofNat (v := m % 128 + 128) (by omega))
      generalize hN : L ++ [UInt8.ofNat (m % 128 + 128)] = L2 at *
      have HN := Lib.hid hN
      have Hlen := Lib.hid hlen
      clear hN hlen
      go_wp2_with (at_builtin; refine wpList_app rfl rfl elemU8 bv_one (s := .tmp 6) (N := L.length + 1) (L := L2) rfl (hown.below (b := wr.heap.size) (by (repeat' (first | (with_reducible exact Below.refl _ _) | (with_reducible assumption) | (with_reducible refine Below.drew ?_) | (with_reducible refine below_drewN ?_ _) | (with_reducible refine Below.alloc ?_ ?_ _) | (with_reducible refine Below.setCell ?_ ?_ _) | omega | (simp; done) | (simp; omega)))) (by first | omega | (simp; done) | (simp; omega))) rfl (k := [UInt8.ofNat (m % 128 + 128)]) (Rd.of_block (l := [UInt8.ofNat (m % 128 + 128)]) (heap_top _ _ (by simp)) (by first | exact congrArg (fun x => [x]) hbv.out.symm | (show [_] = [_]; congr 1; rw [hbv.out]; congr 1; omega))) rfl HN.out (by unfold maxLen; omega) (by omega) (by first | omega | (simp; done) | (simp; omega)) ?_; intro A5 c5 w5 hown5 hg5 hat5 hb5)
      replace hb5 := below_then' (a := w) (B := w.heap.size) (by (repeat' (first | (with_reducible exact Below.refl _ _) | (with_reducible assumption) | (with_reducible refine Below.drew ?_) | (with_reducible refine below_drewN ?_ _) | (with_reducible refine Below.alloc ?_ ?_ _) | (with_reducible refine Below.setCell ?_ ?_ _) | omega | (simp; done) | (simp; omega)))) hb5 (by first | omega | (simp; done) | (simp; omega)); have hb5s := hb5.size
      go_roundw
      case rel => exact ⟨f, m / 128, A5, c5, L2, by show f + L2.length = 9; have := hf.out; rw [Hlen.out]; omega, by go_num, by rw [Hlen.out], hL2, hm2, by omega, by rw [Hlen.out]; exact hown5, hb5⟩
      case measure => simp [intOf]; omega
    · have hL2 : Hid (L ++ [UInt8.ofNat m] = z) := by
        show _ = _
        rw [← hL.out, digL_lt (by omega)]
      have hf9 : L.length ≤ 9 := by have := hf.out; omega
      have hlen : Hid (z.length = L.length + 1) := by show _ = _; rw [← hL2.out]; simp
      have hbv := Lib.hid (bv_ofNat (v := m) (by omega))
      go_wp2_with (at_builtin; refine wpList_app rfl rfl elemU8 bv_one (s := .tmp 15) (N := L.length + 1) (L := z) rfl (hown.below (b := wr.heap.size) (by (repeat' (first | (with_reducible exact Below.refl _ _) | (with_reducible assumption) | (with_reducible refine Below.drew ?_) | (with_reducible refine below_drewN ?_ _) | (with_reducible refine Below.alloc ?_ ?_ _) | (with_reducible refine Below.setCell ?_ ?_ _) | omega | (simp; done) | (simp; omega)))) (by first | omega | (simp; done) | (simp; omega))) rfl (k := [UInt8.ofNat m]) (Rd.of_block (l := [UInt8.ofNat m]) (heap_top _ _ (by simp)) (by first | exact congrArg (fun x => [x]) hbv.out.symm | (show [_] = [_]; congr 1; rw [hbv.out]; congr 1; omega))) rfl hL2.out (by unfold maxLen; omega) (by omega) (by first | omega | (simp; done) | (simp; omega)) ?_; intro A5 c5 w5 hown5 hg5 hat5 hb5)
      replace hb5 := below_then' (a := w) (B := w.heap.size) (by (repeat' (first | (with_reducible exact Below.refl _ _) | (with_reducible assumption) | (with_reducible refine Below.drew ?_) | (with_reducible refine below_drewN ?_ _) | (with_reducible refine Below.alloc ?_ ?_ _) | (with_reducible refine Below.setCell ?_ ?_ _) | omega | (simp; done) | (simp; omega)))) hb5 (by first | omega | (simp; done) | (simp; omega)); have hb5s := hb5.size
      go_ret
      rw [hlen.out]
      exact ⟨A5, c5, rfl, hown5, hb5⟩
set_option maxRecDepth 100000 in
theorem digits_i (u : Nat) (w : World) (hu : u < 9223372036854775808) : Calls Try.prog 149 #[.int .i64 u] w fun e w' => ∃ A c, e = .returned (.slice A (digL 9 u).length c) ∧ OB w' w.heap.size 5 A (digL 9 u).length c (digL 9 u) ∧ Below w.heap.size w w' := by
  generalize hz : digL 9 u = z at *
  have Hz := Lib.hid hz
  clear hz
  go_enter Try.func149, Try.ntmps149
  go_wp2
  go_loopw [0, 3] (fun nn v wr => ∃ f m A c L, Hid (f + L.length = 9) ∧ nn = .int .i64 (m : Nat) ∧ v = .slice A L.length c ∧ Hid (L ++ digL f m = z) ∧ Hid (m < 128 ^ (f + 1)) ∧ m < 9223372036854775808 ∧ OB wr w.heap.size 5 A L.length c L ∧ Below w.heap.size w wr) (fun nn _ _ => (intOf nn).toNat)
  case atStart => exact ⟨9, u, none, 0, [], rfl, rfl, rfl, Hz, by show u < _; omega, hu, Ow.nil _ _ _ _, Below.refl _ _⟩
  case round =>
    obtain ⟨f, m, A, c, L, hf, rfl, rfl, hL, hm, hm64, hown, hb⟩ := hrel
    have hbs := hb.size
    by_cases hbig : 128 ≤ m
    · obtain ⟨f, rfl⟩ : ∃ k, f = k + 1 := by
        cases f with
        | zero => have := hm.out; omega
        | succ f => exact ⟨f, rfl⟩
      have hL2 : Hid ((L ++ [UInt8.ofNat (m % 128 + 128)]) ++ digL f (m / 128) = z) := by
        show _ = _
        rw [← hL.out]; conv => rhs; unfold digL
        rw [if_neg (by omega)]; simp
      have hm2 : Hid (m / 128 < 128 ^ (f + 1)) := by
        show m / 128 < _
        have := hm.out
        rw [Nat.pow_succ] at this
        omega
      have hf9 : L.length ≤ 8 := by have := hf.out; omega
      have hlen : (L ++ [UInt8.ofNat (m % 128 + 128)]).length = L.length + 1 := by simp
      have hbv := Lib.hid (bv_ofNat (v := m % 128 + 128) (by omega))
      generalize hN : L ++ [UInt8.ofNat (m % 128 + 128)] = L2 at *
      have HN := Lib.hid hN
      have Hlen := Lib.hid hlen
      clear hN hlen
      go_wp2_with (at_builtin; refine wpList_app rfl rfl elemU8 bv_one (s := .tmp 6) (N := L.length + 1) (L := L2) rfl (hown.below (b := wr.heap.size) (by (repeat' (first | (with_reducible exact Below.refl _ _) | (with_reducible assumption) | (with_reducible refine Below.drew ?_) | (with_reducible refine below_drewN ?_ _) | (with_reducible refine Below.alloc ?_ ?_ _) | (with_reducible refine Below.setCell ?_ ?_ _) | omega | (simp; done) | (simp; omega)))) (by first | omega | (simp; done) | (simp; omega))) rfl (k := [UInt8.ofNat (m % 128 + 128)]) (Rd.of_block (l := [UInt8.ofNat (m % 128 + 128)]) (heap_top _ _ (by simp)) (by first | exact congrArg (fun x => [x]) hbv.out.symm | (show [_] = [_]; congr 1; rw [hbv.out]; congr 1; omega))) rfl HN.out (by unfold maxLen; omega) (by omega) (by first | omega | (simp; done) | (simp; omega)) ?_; intro A5 c5 w5 hown5 hg5 hat5 hb5)
      replace hb5 := below_then' (a := w) (B := w.heap.size) (by (repeat' (first | (with_reducible exact Below.refl _ _) | (with_reducible assumption) | (with_reducible refine Below.drew ?_) | (with_reducible refine below_drewN ?_ _) | (with_reducible refine Below.alloc ?_ ?_ _) | (with_reducible refine Below.setCell ?_ ?_ _) | omega | (simp; done) | (simp; omega)))) hb5 (by first | omega | (simp; done) | (simp; omega)); have hb5s := hb5.size
      go_roundw
      case rel => exact ⟨f, m / 128, A5, c5, L2, by show f + L2.length = 9; have := hf.out; rw [Hlen.out]; omega, by go_num, by rw [Hlen.out], hL2, hm2, by omega, by rw [Hlen.out]; exact hown5, hb5⟩
      case measure => simp [intOf]; omega
    · have hL2 : Hid (L ++ [UInt8.ofNat m] = z) := by
        show _ = _
        rw [← hL.out, digL_lt (by omega)]
      have hf9 : L.length ≤ 9 := by have := hf.out; omega
      have hlen : Hid (z.length = L.length + 1) := by show _ = _; rw [← hL2.out]; simp
      have hbv := Lib.hid (bv_ofNat (v := m) (by omega))
      go_wp2_with (at_builtin; refine wpList_app rfl rfl elemU8 bv_one (s := .tmp 15) (N := L.length + 1) (L := z) rfl (hown.below (b := wr.heap.size) (by (repeat' (first | (with_reducible exact Below.refl _ _) | (with_reducible assumption) | (with_reducible refine Below.drew ?_) | (with_reducible refine below_drewN ?_ _) | (with_reducible refine Below.alloc ?_ ?_ _) | (with_reducible refine Below.setCell ?_ ?_ _) | omega | (simp; done) | (simp; omega)))) (by first | omega | (simp; done) | (simp; omega))) rfl (k := [UInt8.ofNat m]) (Rd.of_block (l := [UInt8.ofNat m]) (heap_top _ _ (by simp)) (by first | exact congrArg (fun x => [x]) hbv.out.symm | (show [_] = [_]; congr 1; rw [hbv.out]; congr 1; omega))) rfl hL2.out (by unfold maxLen; omega) (by omega) (by first | omega | (simp; done) | (simp; omega)) ?_; intro A5 c5 w5 hown5 hg5 hat5 hb5)
      replace hb5 := below_then' (a := w) (B := w.heap.size) (by (repeat' (first | (with_reducible exact Below.refl _ _) | (with_reducible assumption) | (with_reducible refine Below.drew ?_) | (with_reducible refine below_drewN ?_ _) | (with_reducible refine Below.alloc ?_ ?_ _) | (with_reducible refine Below.setCell ?_ ?_ _) | omega | (simp; done) | (simp; omega)))) hb5 (by first | omega | (simp; done) | (simp; omega)); have hb5s := hb5.size
      go_ret
      rw [hlen.out]
      exact ⟨A5, c5, rfl, hown5, hb5⟩

theorem short_any (n : Nat) (w : World) (h : n < 9223372036854775808) : Calls Try.prog 146 #[.int .i64 n] w fun e w' => ∃ A c, e = .returned (.tuple #[.slice A (digL 9 n).length c, .int .i64 0]) ∧ OB w' w.heap.size 5 A (digL 9 n).length c (digL 9 n) ∧ Below w.heap.size w w' := by
  have h1 : ¬ ((n : Nat) : Int) < 0 := by omega
  have hd := fun w => digits_i n w h
  go_enter Try.func146, Try.ntmps146
  go_wp2_with (go_at_call 149; (with_reducible refine (hd _).mono ?_); rintro e w1 ⟨A, c, rfl, hown, hb⟩)
  go_ret2
  exact ⟨A, c, rfl, hown, hb⟩
theorem u64_flip (x : Nat) (hx : x < 18446744073709551616) : bits .xor .u64 (x : Int) 18446744073709551615 = ((18446744073709551615 - x : Nat) : Int) := by
  show IntKind.u64.wrap ((BitVec.ofInt 64 (x : Int) ^^^ BitVec.ofInt 64 18446744073709551615).toNat : Int) = _
  have h1 : BitVec.ofInt 64 18446744073709551615 = BitVec.allOnes 64 := by decide
  rw [h1, BitVec.xor_allOnes, BitVec.toNat_not, ofInt_u64' x hx, IntKind.wrap_u64]
  omega
theorem zig_bits (n : Int) (h0 : -9223372036854775808 ≤ n) (h1 : n ≤ 9223372036854775807) :
    bits .xor .u64 (IntKind.u64.wrap (IntKind.u64.wrap n * 2)) (IntKind.u64.wrap (n / 9223372036854775808)) = ((zz n : Nat) : Int) := by
  by_cases h : 0 ≤ n
  · have e1 : IntKind.u64.wrap (IntKind.u64.wrap n * 2) = (((2 * n).toNat : Nat) : Int) := by simp only [IntKind.wrap_u64]; omega
    have e2 : IntKind.u64.wrap (n / 9223372036854775808) = ((0 : Nat) : Int) := by simp only [IntKind.wrap_u64]; omega
    rw [e1, e2, bits_xor_u64_nat _ _ (by omega) (by omega), Nat.xor_zero]
    unfold zz; rw [if_pos h]
  · have e1 : IntKind.u64.wrap (IntKind.u64.wrap n * 2) = (((2 * n + 18446744073709551616).toNat : Nat) : Int) := by simp only [IntKind.wrap_u64]; omega
    have e2 : IntKind.u64.wrap (n / 9223372036854775808) = 18446744073709551615 := by simp only [IntKind.wrap_u64]; omega
    rw [e1, e2, u64_flip _ (by omega)]
    unfold zz; rw [if_neg h]; omega
theorem zig_any (n : Int) (w : World) (h0 : -9223372036854775808 ≤ n) (h1 : n ≤ 9223372036854775807) : Calls Try.prog 91 #[.int .i64 n] w fun e w' => ∃ A c, e = .returned (.slice A (digL 9 (zz n)).length c) ∧ OB w' w.heap.size 5 A (digL 9 (zz n)).length c (digL 9 (zz n)) ∧ Below w.heap.size w w' := by
  have hd := fun w => digits_u (zz n) w (zz_lt h0 h1)
  have hz := zig_bits n h0 h1
  go_enter Try.func91, Try.ntmps91
  go_wp2_with (go_at_call 115; (with_reducible refine (hd _).mono ?_); rintro e w1 ⟨A, c, rfl, hown, hb⟩)
  go_ret
  exact ⟨A, c, rfl, hown, hb⟩
end Go.Proofs.Ytalmdccgpigppaa
