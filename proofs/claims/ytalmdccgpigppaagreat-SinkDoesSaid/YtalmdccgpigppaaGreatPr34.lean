/- Parts: NumB, NumC, NumD. -/
import Derived.Test.YtalmdccgpigppaaGreatPr04
namespace Go.Proofs.YtalmdccgpigppaaGreat
open Go.RowKit

theorem digL_lt {f n : Nat} (h : n < 128) : digL f n = [UInt8.ofNat n] := by
  cases f with
  | zero => rfl
  | succ f => unfold digL; rw [if_pos h]

set_option maxRecDepth 100000 in
theorem digits_u (u : Nat) (w : World) (hu : u < 18446744073709551616) : Calls Tryz.prog 168 #[.int .u64 u] w fun e w' => ∃ A c, e = .returned (.slice A (digL 9 u).length c) ∧ OB w' w.heap.size 5 A (digL 9 u).length c (digL 9 u) ∧ Below w.heap.size w w' := by
  generalize hz : digL 9 u = z at *
  have Hz := Lib.hid hz
  clear hz
  go_enter Tryz.func168, Tryz.ntmps168
  go_wp2
  go_loopw [0, 3] (fun nn v wr => ∃ f m A c L, Hid (f + L.length = 9) ∧ nn = .int .u64 (m : Nat) ∧ v = .slice A L.length c ∧ Hid (L ++ digL f m = z) ∧ Hid (m < 128 ^ (f + 1)) ∧ m < 18446744073709551616 ∧ OB wr w.heap.size 5 A L.length c L ∧ Below w.heap.size w wr) (fun nn _ _ => (intOf nn).toNat)
  case atStart => exact ⟨9, u, none, 0, [], rfl, rfl, rfl, Hz, by show u < _; omega, hu, Ow.nil _ _ _ _, Below.refl _ _⟩
  case round =>
    obtain ⟨f, m, A, c, L, hf, rfl, rfl, hL, hm, hm64, hown, hb⟩ := hrel
    have hbs := hb.size
    by_cases hbig : 128 ≤ m
    · obtain ⟨f, rfl⟩ : ∃ k, f = k + 1 := by
        cases f with
        | zero => have := hm.out; omega
        | succ f => exact ⟨f, rfl⟩
      have hL2 : Hid ((L ++ [UInt8.ofNat (m % 128 + 128)]) ++ digL f (m / 128) = z) := by
        show _ = _
        rw [← hL.out]; conv => rhs; unfold digL
        rw [if_neg (by omega)]; simp
      have hm2 : Hid (m / 128 < 128 ^ (f + 1)) := by
        show m / 128 < _
        have := hm.out
        rw [Nat.pow_succ] at this
        omega
      have hf9 : L.length ≤ 8 := by have := hf.out; omega
      have hlen : (L ++ [UInt8.ofNat (m % 128 + 128)]).length = L.length + 1 := by simp
      have hbv := Lib.hid (bv_ofNat (v := m % 128 + 128) (by omega))
      generalize hN : L ++ [UInt8.ofNat (m % 128 + 128)] = L2 at *
      have HN := Lib.hid hN
      have Hlen := Lib.hid hlen
      clear hN hlen
      go_wp2_with (at_builtin; refine wpList_app rfl rfl elemU8 bv_one (s := .tmp 6) (N := L.length + 1) (L := L2) rfl (hown.below (b := wr.heap.size) (by (repeat' (first | (with_reducible exact Below.refl _ _) | (with_reducible assumption) | (with_reducible refine Below.drew ?_) | (with_reducible refine below_drewN ?_ _) | (with_reducible refine Below.alloc ?_ ?_ _) | (with_reducible refine Below.setCell ?_ ?_ _) | omega | (simp; done) | (simp; omega)))) (by first | omega | (simp; done) | (simp; omega))) rfl (k := [UInt8.ofNat (m % 128 + 128)]) (Rd.of_block (l := [UInt8.ofNat (m % 128 + 128)]) (heap_top _ _ (by simp)) (by first | exact congrArg (fun x => [x]) hbv.out.symm | (show [_] = [_]; congr 1; rw [hbv.out]; congr 1; omega))) rfl HN.out (by unfold maxLen; omega) (by omega) (by first | omega | (simp; done) | (simp; omega)) ?_; intro A5 c5 w5 hown5 hg5 hat5 hb5)
      replace hb5 := below_then' (a := w) (B := w.heap.size) (by (repeat' (first | (with_reducible exact Below.refl _ _) | (with_reducible assumption) | (with_reducible refine Below.drew ?_) | (with_reducible refine below_drewN ?_ _) | (with_reducible refine Below.alloc ?_ ?_ _) | (with_reducible refine Below.setCell ?_ ?_ _) | omega | (simp; done) | (simp; omega)))) hb5 (by first | omega | (simp; done) | (simp; omega)); have hb5s := hb5.size
      go_roundw
      case rel => exact ⟨f, m / 128, A5, c5, L2, by show f + L2.length = 9; have := hf.out; rw [Hlen.out]; omega, by go_num, by rw [Hlen.out], hL2, hm2, by omega, by rw [Hlen.out]; exact hown5, hb5⟩
      case measure => simp [intOf]; omega
    · have hL2 : Hid (L ++ [UInt8.ofNat m] = z) := by
        show _ = _
        rw [← hL.out, digL_lt (by omega)]
      have hf9 : L.length ≤ 9 := by have := hf.out; omega
      have hlen : Hid (z.length = L.length + 1) := by show _ = _; rw [← hL2.out]; simp
      have hbv := Lib.hid (bv_ofNat (v := m) (by omega))
      go_wp2_with (at_builtin; refine wpList_app rfl rfl elemU8 bv_one (s := .tmp 15) (N := L.length + 1) (L := z) rfl (hown.below (b := wr.heap.size) (by (repeat' (first | (with_reducible exact Below.refl _ _) | (with_reducible assumption) | (with_reducible refine Below.drew ?_) | (with_reducible refine below_drewN ?_ _) | (with_reducible refine Below.alloc ?_ ?_ _) | (with_reducible refine Below.setCell ?_ ?_ _) | omega | (simp; done) | (simp; omega)))) (by first | omega | (simp; done) | (simp; omega))) rfl (k := [UInt8.ofNat m]) (Rd.of_block (l := [UInt8.ofNat m]) (heap_top _ _ (by simp)) (by first | exact congrArg (fun x => [x]) hbv.out.symm | (show [_] = [_]; congr 1; rw [hbv.out]; congr 1; omega))) rfl hL2.out (by unfold maxLen; omega) (by omega) (by first | omega | (simp; done) | (simp; omega)) ?_; intro A5 c5 w5 hown5 hg5 hat5 hb5)
      replace hb5 := below_then' (a := w) (B := w.heap.size) (by (repeat' (first | (with_reducible exact Below.refl _ _) | (with_reducible assumption) | (with_reducible refine Below.drew ?_) | (with_reducible refine below_drewN ?_ _) | (with_reducible refine Below.alloc ?_ ?_ _) | (with_reducible refine Below.setCell ?_ ?_ _) | omega | (simp; done) | (simp; omega)))) hb5 (by first | omega | (simp; done) | (simp; omega)); have hb5s := hb5.size
      go_ret
      rw [hlen.out]
      exact ⟨A5, c5, rfl, hown5, hb5⟩
theorem u64_flip (x : Nat) (hx : x < 18446744073709551616) : bits .xor .u64 (x : Int) 18446744073709551615 = ((18446744073709551615 - x : Nat) : Int) := by
  show IntKind.u64.wrap ((BitVec.ofInt 64 (x : Int) ^^^ BitVec.ofInt 64 18446744073709551615).toNat : Int) = _
  have h1 : BitVec.ofInt 64 18446744073709551615 = BitVec.allOnes 64 := by decide
  rw [h1, BitVec.xor_allOnes, BitVec.toNat_not, ofInt_u64' x hx, IntKind.wrap_u64]
  omega
theorem zig_bits (n : Int) (h0 : -9223372036854775808 ≤ n) (h1 : n ≤ 9223372036854775807) :
    bits .xor .u64 (IntKind.u64.wrap (IntKind.u64.wrap n * 2)) (IntKind.u64.wrap (n / 9223372036854775808)) = ((zz n : Nat) : Int) := by
  by_cases h : 0 ≤ n
  · have e1 : IntKind.u64.wrap (IntKind.u64.wrap n * 2) = (((2 * n).toNat : Nat) : Int) := by simp only [IntKind.wrap_u64]; omega
    have e2 : IntKind.u64.wrap (n / 9223372036854775808) = ((0 : Nat) : Int) := by simp only [IntKind.wrap_u64]; omega
    rw [e1, e2, bits_xor_u64_nat _ _ (by omega) (by omega), Nat.xor_zero]
    unfold zz; rw [if_pos h]
  · have e1 : IntKind.u64.wrap (IntKind.u64.wrap n * 2) = (((2 * n + 18446744073709551616).toNat : Nat) : Int) := by simp only [IntKind.wrap_u64]; omega
    have e2 : IntKind.u64.wrap (n / 9223372036854775808) = 18446744073709551615 := by simp only [IntKind.wrap_u64]; omega
    rw [e1, e2, u64_flip _ (by omega)]
    unfold zz; rw [if_neg h]; omega
theorem zig_any (n : Int) (w : World) (h0 : -9223372036854775808 ≤ n) (h1 : n ≤ 9223372036854775807) : Calls Tryz.prog 105 #[.int .i64 n] w fun e w' => ∃ A c, e = .returned (.slice A (digL 9 (zz n)).length c) ∧ OB w' w.heap.size 5 A (digL 9 (zz n)).length c (digL 9 (zz n)) ∧ Below w.heap.size w w' := by
  have hd := fun w => digits_u (zz n) w (zz_lt h0 h1)
  have hz := zig_bits n h0 h1
  go_enter Tryz.func105, Tryz.ntmps105
  go_wp2_with (go_at_call 168; (with_reducible refine (hd _).mono ?_); rintro e w1 ⟨A, c, rfl, hown, hb⟩)
  go_ret
  exact ⟨A, c, rfl, hown, hb⟩
end Go.Proofs.YtalmdccgpigppaaGreat
namespace Go.Proofs.YtalmdccgpigppaaGreat
open Go.RowKit

theorem endsL_cons (most k : Nat) (l : List UInt8) (h : k < l.length) : endsL most k (l.drop k) =
    if most ≤ k then (0, 11) else if byteAt l k < 128 then (if 0 < k ∧ byteAt l k = 0 then (0, 11) else (k + 1, 0)) else endsL most (k + 1) (l.drop (k + 1)) := by
  rw [List.drop_eq_getElem_cons h]
  have e : l[k].toNat = byteAt l k := by simp [byteAt, List.getD_eq_getElem?_getD, h]
  conv => lhs; unfold endsL
  rw [e]
theorem endsL_nil (most k : Nat) (l : List UInt8) (h : l.length ≤ k) : endsL most k (l.drop k) = (0, if k < most then 10 else 11) := by
  rw [List.drop_of_length_le h]; rfl
theorem sevL_snoc (l : List UInt8) (k : Nat) (h : k < l.length) : sevL (l.take (k + 1)) = sevL (l.take k) + 128 ^ k * (byteAt l k % 128) := by
  rw [take_succ_byte l k h, sevL_append]
  have e : (l.take k).length = k := by rw [List.length_take]; omega
  rw [e]; simp [sevL, byteAt]

def nreadV (N : Nat) (z : Nat × Nat) (l : List UInt8) : Nat := if z.2 = 0 then sevL (l.take z.1) % N else 0
set_option maxHeartbeats 1000000 in
set_option maxRecDepth 100000 in
theorem read_u (A : Option Addr) (n c : Nat) (l : List UInt8) (w : World) (hl : RB w A n l) (hn : n ≤ maxLen) :
    Calls Tryz.prog 207 #[.slice A n c, .int .i64 10] w fun e w' => e = .returned (.tuple #[.int .u64 (nreadV 18446744073709551616 (endsL 10 0 l) l : Nat), .int .i64 ((endsL 10 0 l).1 : Nat), .int .i64 ((endsL 10 0 l).2 : Nat)]) ∧ w = w' := by
  unfold maxLen at hn
  have hlen := Lib.hid hl.1
  generalize hz : endsL 10 0 l = z at *
  have Hz := Lib.hid hz
  clear hz
  go_enter Tryz.func207, Tryz.ntmps207
  go_wp2
  go_loop [7, 8, 13] (fun vv oo ii => ∃ k v o, k ≤ n ∧ k ≤ 10 ∧ ii = .int .i64 (k : Nat) ∧ vv = .int .u64 (v : Nat) ∧ oo = .int .u64 (o : Nat) ∧ Hid (endsL 10 k (l.drop k) = z) ∧ Hid (k < 10 → o = 128 ^ k ∧ v = sevL (l.take k))) (fun _ _ ii => n - (intOf ii).toNat)
  case atStart => exact ⟨0, 0, 1, Nat.zero_le _, by omega, rfl, rfl, rfl, Hz, fun _ => ⟨rfl, rfl⟩⟩
  case round =>
    obtain ⟨k, v, o, hk, hk10, rfl, rfl, rfl, hE, hV⟩ := hrel
    by_cases hlt : k < n
    · by_cases hmost : k < 10
      · obtain ⟨b, off, rfl, _, hc⟩ := hl.at_ hlt
        have hcons := Lib.hid (endsL_cons 10 k l (by rw [hlen.out]; exact hlt))
        have hsnoc := Lib.hid (sevL_snoc l k (by rw [hlen.out]; exact hlt))
        have hb := byteAt_lt l k
        obtain ⟨ho, hv⟩ := hV.out hmost
        have Ho := Lib.hid ho
        have Hv := Lib.hid hv
        clear ho hv
        have hne : (((k : Nat) : Int) == 10) = false := by rw [beq_eq_false_iff_ne]; omega
        have Hc := Lib.hid (rfl : byteAt l k = byteAt l k)
        generalize hy : byteAt l k = y at *
        clear hy Hc
        have e1 : IntKind.u64.wrap ((o : Int) * ((y : Int) % 128)) = ((o * (y % 128) % 18446744073709551616 : Nat) : Int) := by
          rw [IntKind.wrap_u64]; simp only [Int.natCast_emod, Int.natCast_mul]; rfl
        have e2 : IntKind.u64.wrap ((v : Int) + ((o * (y % 128) % 18446744073709551616 : Nat) : Int)) = (((v + o * (y % 128)) % 18446744073709551616 : Nat) : Int) := by
          rw [IntKind.wrap_u64]; omega
        have e3 : IntKind.u64.wrap ((o : Int) * 128) = ((o * 128 % 18446744073709551616 : Nat) : Int) := by
          rw [IntKind.wrap_u64]; omega
        have hVn : Hid ((v + o * (y % 128)) % 18446744073709551616 = sevL (l.take (k + 1)) % 18446744073709551616) := by
          show _ = _
          rw [hsnoc.out, ← Hv.out, ← Ho.out]
        generalize hg1 : o * (y % 128) % 18446744073709551616 = p1 at *
        generalize hg2 : (v + o * (y % 128)) % 18446744073709551616 = p2 at *
        generalize hg3 : o * 128 % 18446744073709551616 = p3 at *
        have Hg2 := Lib.hid hg2
        have Hg3 := Lib.hid hg3
        clear hg1 hg2 hg3
        by_cases h128 : 128 ≤ y
        · have hE2 : Hid (endsL 10 (k + 1) (l.drop (k + 1)) = z) := by
            show _ = _
            rw [← hE.out, hcons.out, if_neg (by omega), if_neg (by omega)]
          have hV2 : Hid (k + 1 < 10 → p3 = 128 ^ (k + 1) ∧ p2 = sevL (l.take (k + 1))) := by
            intro hk2
            have h1 : 128 ^ (k + 1) ≤ 128 ^ 9 := Nat.pow_le_pow_right (by omega) (by omega)
            have h2 := sevL_lt (l.take (k + 1))
            have h3 : 128 ^ (l.take (k + 1)).length ≤ 128 ^ (k + 1) := Nat.pow_le_pow_right (by omega) (List.length_take_le _ _)
            constructor
            · rw [← Hg3.out, Ho.out, ← Nat.pow_succ]; omega
            · rw [hVn.out]; omega
          clear hVn Hg2 Hg3 Ho Hv hcons hsnoc hE hV
          go_wp2
          go_round
          case rel => exact ⟨k + 1, p2, p3, by omega, by omega, by go_num, rfl, rfl, hE2, hV2⟩
          case measure => simp [intOf]; omega
        · by_cases hform : 0 < k ∧ y = 0
          · have hz : Hid (z = (0, 11)) := by
              show _ = _
              rw [← hE.out, hcons.out, if_neg (by omega), if_pos (by omega), if_pos hform]
            obtain ⟨hk0, hy0⟩ := hform
            subst hy0
            clear hVn Hg2 Hg3 Ho Hv hcons hsnoc hE hV
            go_wp2
            go_ret3
            rw [hz.out]
            exact ⟨rfl, rfl⟩
          · have hz : Hid (z = (k + 1, 0)) := by
              show _ = _
              rw [← hE.out, hcons.out, if_neg (by omega), if_pos (by omega), if_neg hform]
            have hfin : Hid (Ending.returned (.tuple #[.int .u64 ((p2 : Nat) : Int), .int .i64 ((k : Int) + 1), .int .i64 0]) = Ending.returned (.tuple #[.int .u64 (nreadV 18446744073709551616 z l : Nat), .int .i64 (z.1 : Nat), .int .i64 (z.2 : Nat)])) := by
              show _ = _
              rw [hz.out]
              have e : nreadV 18446744073709551616 (k + 1, 0) l = p2 := hVn.out.symm
              rw [e]; rfl
            have hcase : (y = 0 ∧ k = 0) ∨ 0 < y := by omega
            clear hVn Hg2 Hg3 Ho Hv hcons hsnoc hE hV hz hform
            rcases hcase with ⟨hy0, hk0⟩ | hy0
            · have hyb : (((y : Nat) : Int) == 0) = true := by rw [beq_iff_eq]; omega
              have hkb : decide ((0 : Int) < (k : Int)) = false := by rw [decide_eq_false_iff_not]; omega
              have hk1 : k ≤ 0 := by omega
              clear hy0 hk0
              go_wp2
              go_ret3
              exact ⟨hfin.out, rfl⟩
            · have hyb : (((y : Nat) : Int) == 0) = false := by rw [beq_eq_false_iff_ne]; omega
              go_wp2
              go_ret3
              exact ⟨hfin.out, rfl⟩
      · have hk9 : k = 10 := by omega
        subst hk9
        have hz : Hid (z = (0, 11)) := by
          show _ = _
          rw [← hE.out, endsL_cons 10 10 l (by rw [hlen.out]; exact hlt), if_pos (by omega)]
        obtain ⟨b, off, rfl, _, hc⟩ := hl.at_ hlt
        clear hE hV
        go_wp2
        go_ret3
        rw [hz.out]
        exact ⟨rfl, rfl⟩
    · have hz : Hid (z = (0, if k < 10 then 10 else 11)) := by
        show _ = _
        rw [← hE.out, endsL_nil 10 k l (by rw [hlen.out]; omega)]
      have hkn : k = n := by omega
      subst hkn
      clear hE hV
      by_cases h9 : k < 10
      · rw [if_pos h9] at hz
        go_wp2
        go_ret3
        rw [hz.out]
        exact ⟨rfl, rfl⟩
      · rw [if_neg h9] at hz
        go_wp2
        go_ret3
        rw [hz.out]
        exact ⟨rfl, rfl⟩
end Go.Proofs.YtalmdccgpigppaaGreat
namespace Go.Proofs.YtalmdccgpigppaaGreat
open Go.RowKit

def zagE (l : List UInt8) : Nat := if (endsL 10 0 l).2 ≠ 0 then (endsL 10 0 l).2 else if (endsL 10 0 l).1 = 10 ∧ 1 < byteAt l 9 then 11 else 0
def zagS (l : List UInt8) : Nat := if zagE l = 0 then (endsL 10 0 l).1 else 0
def zagV (l : List UInt8) : Int := if zagE l = 0 then unzz (sevL (l.take (endsL 10 0 l).1)) else 0

theorem zag_err (A : Option Addr) (n c : Nat) (l : List UInt8) (w : World) (hl : RB w A n l) (hn : n ≤ maxLen) (he : (endsL 10 0 l).2 ≠ 0) :
    Calls Tryz.prog 166 #[.slice A n c] w fun e w' => e = .returned (.tuple #[.int .i64 0, .int .i64 0, .int .i64 ((endsL 10 0 l).2 : Nat)]) ∧ w = w' := by
  have hd := fun w => read_u A n c l w
  generalize nreadV 18446744073709551616 (endsL 10 0 l) l = v at *
  generalize endsL 10 0 l = z at *
  have h1 : (((z.2 : Nat) : Int) != 0) = true := by rw [bne_iff_ne]; omega
  have h2 : (((z.2 : Nat) : Int) == 0) = false := by rw [beq_eq_false_iff_ne]; omega
  clear he
  go_enter Tryz.func166, Tryz.ntmps166
  go_wp2_with (go_at_call 207; (with_reducible refine (hd _ hl hn).mono ?_); rintro e w' ⟨rfl, rfl⟩)
  go_ret3
  exact ⟨rfl, rfl⟩
theorem zag_big (A : Option Addr) (n c : Nat) (l : List UInt8) (w : World) (hl : RB w A n l) (hn : n ≤ maxLen) (hz : endsL 10 0 l = (10, 0)) (hb : 1 < byteAt l 9) :
    Calls Tryz.prog 166 #[.slice A n c] w fun e w' => e = .returned (.tuple #[.int .i64 0, .int .i64 0, .int .i64 11]) ∧ w = w' := by
  have hd := fun w => read_u A n c l w
  rw [hz] at hd
  have hle := (endsL_le 10 l 0 (by rw [hz])).2.2
  rw [hz] at hle
  have hlen := hl.1
  have h10 : 10 ≤ n := by simp at hle; omega
  clear hz hle hlen
  obtain ⟨b, o, rfl, _, hc⟩ := hl.at_ (k := 9) (by omega)
  generalize nreadV 18446744073709551616 (10, 0) l = v at *
  generalize byteAt l 9 = y at *
  go_enter Tryz.func166, Tryz.ntmps166
  go_wp2_with (go_at_call 207; (with_reducible refine (hd _ hl hn).mono ?_); rintro e w' ⟨rfl, rfl⟩)
  go_ret3
  exact ⟨rfl, rfl⟩
theorem i64_flip (a : Nat) (ha : a < 9223372036854775808) : bits .xor .i64 (a : Int) (-1) = -(a : Int) - 1 := by
  show IntKind.i64.wrap ((BitVec.ofInt 64 (a : Int) ^^^ BitVec.ofInt 64 (-1)).toNat : Int) = _
  have h1 : BitVec.ofInt 64 (-1) = BitVec.allOnes 64 := by decide
  rw [h1, BitVec.xor_allOnes, BitVec.toNat_not, ofInt_u64' a (by omega)]
  simp [IntKind.wrap, IntKind.bits, IntKind.signed]
  omega
theorem i64_same (a : Nat) (ha : a < 9223372036854775808) : bits .xor .i64 (a : Int) 0 = (a : Int) := by
  show IntKind.i64.wrap ((BitVec.ofInt 64 (a : Int) ^^^ BitVec.ofInt 64 ((0 : Nat) : Int)).toNat : Int) = _
  rw [BitVec.toNat_xor, ofInt_u64' a (by omega), ofInt_u64' 0 (by omega), Nat.xor_zero, IntKind.wrap_i64]
  omega
theorem zag_bits (v : Nat) (hv : v < 18446744073709551616) : bits .xor .i64 ((v : Int) / 2) (-((v : Int) % 2)) = unzz v := by
  unfold unzz
  have e : (v : Int) / 2 = ((v / 2 : Nat) : Int) := by omega
  by_cases h : v % 2 = 0
  · have e2 : -((v : Int) % 2) = 0 := by omega
    rw [if_pos h, e, e2, i64_same _ (by omega)]
  · have e2 : -((v : Int) % 2) = -1 := by omega
    rw [if_neg h, e, e2, i64_flip _ (by omega)]
theorem zag_lt {n s : Nat} {l : List UInt8} (hlen : l.length = n) (hz : endsL 10 0 l = (s, 0)) (hb : s ≠ 10 ∨ byteAt l 9 ≤ 1) : sevL (l.take s) < 18446744073709551616 := by
  have hle := endsL_le 10 l 0 (by rw [hz])
  rw [hz] at hle
  simp only [Nat.zero_add] at hle
  by_cases h10 : s = 10
  · subst h10
    have hb1 : byteAt l 9 ≤ 1 := by omega
    have h2 := sevL_lt (l.take 9)
    have h3 : (l.take 9).length = 9 := by rw [List.length_take]; omega
    rw [h3] at h2
    rw [sevL_snoc l 9 (by omega)]
    have : byteAt l 9 % 128 ≤ 1 := by omega
    have := Nat.mul_le_mul_left (128 ^ 9) this
    omega
  · have h2 := sevL_lt (l.take s)
    have h3 : 128 ^ (l.take s).length ≤ 128 ^ 9 := Nat.pow_le_pow_right (by omega) (by rw [List.length_take]; omega)
    omega
theorem zag_ok (A : Option Addr) (n c s : Nat) (l : List UInt8) (w : World) (hl : RB w A n l) (hn : n ≤ maxLen) (hz : endsL 10 0 l = (s, 0)) (hb : s ≠ 10 ∨ byteAt l 9 ≤ 1) :
    Calls Tryz.prog 166 #[.slice A n c] w fun e w' => e = .returned (.tuple #[.int .i64 (unzz (sevL (l.take s))), .int .i64 s, .int .i64 0]) ∧ w = w' := by
  have hd := fun w => read_u A n c l w
  have hle := endsL_le 10 l 0 (by rw [hz])
  rw [hz] at hd hle
  simp only [Nat.zero_add] at hle
  have hlen := hl.1
  have hv := zag_lt hl.1 hz hb
  have hrv : nreadV 18446744073709551616 (s, 0) l = sevL (l.take s) := Nat.mod_eq_of_lt hv
  rw [hrv] at hd
  generalize sevL (l.take s) = v at *
  clear hrv
  have hand := and_one_u64 (v : Int) (by omega) (by omega)
  have hxor := zag_bits v hv
  generalize unzz v = r at *
  by_cases h10 : s = 10
  · have hb1 : byteAt l 9 ≤ 1 := by omega
    have h9 : 10 ≤ n := by omega
    have hs : (((s : Nat) : Int) == 10) = true := by rw [beq_iff_eq]; omega
    clear hz hle hlen hb h10
    obtain ⟨b, o, rfl, _, hc⟩ := hl.at_ (k := 9) (by omega)
    generalize byteAt l 9 = y at *
    go_enter Tryz.func166, Tryz.ntmps166
    go_wp2_with (go_at_call 207; (with_reducible refine (hd _ hl hn).mono ?_); rintro e w' ⟨rfl, rfl⟩)
    go_ret3
    exact ⟨rfl, rfl⟩
  · have hs : (((s : Nat) : Int) == 10) = false := by rw [beq_eq_false_iff_ne]; omega
    clear hz hle hlen hb h10
    go_enter Tryz.func166, Tryz.ntmps166
    go_wp2_with (go_at_call 207; (with_reducible refine (hd _ hl hn).mono ?_); rintro e w' ⟨rfl, rfl⟩)
    go_ret3
    exact ⟨rfl, rfl⟩
end Go.Proofs.YtalmdccgpigppaaGreat
