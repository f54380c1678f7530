/- Parts: RefNumA, RefNumC, RefNumD, RefNumE, RowB. -/
import Derived.Test.YtalmdccgpigppaaPart03
import Derived.Test.YtalmdccgpigppaaPart18
import Derived.Test.YtalmdccgpigppaaPart20
import Derived.Test.YtalmdccgpigppaaPart01
import Derived.Test.YtalmdccgpigppaaPart17
namespace Go.Proofs.Ytalmdccgpigppaa
open Go.RowKit

theorem bit_un (n : Int) (k : Nat) (hk : k < 64) : ((bit (un n) k : Nat) : Int) = n / 2 ^ k % 2 := by
  unfold bit un
  have h1 : ((n % 18446744073709551616).toNat : Int) = n % 18446744073709551616 := Int.toNat_of_nonneg (by omega)
  rw [Int.natCast_emod, Int.natCast_ediv, h1]
  have h2 : (18446744073709551616 : Int) = 2 ^ k * 2 ^ (64 - k) := by
    rw [← Int.pow_add, show k + (64 - k) = 64 from by omega]; rfl
  have h3 : (2 : Int) ^ (64 - k) = 2 * 2 ^ (63 - k) := by
    rw [show 64 - k = (63 - k) + 1 from by omega, Int.pow_succ, Int.mul_comm]
  have h4 : n % 18446744073709551616 = n - 18446744073709551616 * (n / 18446744073709551616) := by omega
  have hp : (2 : Int) ^ k ≠ 0 := by
    have : (0 : Int) < 2 ^ k := Int.pow_pos (by omega)
    omega
  generalize hq : n / 18446744073709551616 = q at *
  rw [h4, h2, h3]
  have e : n - 2 ^ k * (2 * 2 ^ (63 - k)) * q = n + 2 ^ k * (-(2 * (2 ^ (63 - k) * q))) := by
    rw [Int.mul_neg, ← Int.mul_assoc, ← Int.mul_assoc, ← Int.mul_assoc]; omega
  rw [e]
  have e2 : (((2 ^ k : Nat) : Int)) = 2 ^ k := by simp
  rw [e2, Int.add_mul_ediv_left _ _ hp]
  have : ((2 : Nat) : Int) = 2 := rfl
  rw [this]
  generalize 2 ^ (63 - k) * q = z
  omega

theorem tm2 (x : Int) (h : x < 0) : x.tmod 2 = -((-x) % 2) := by
  have e := Int.neg_tmod (-x) 2
  rw [Int.neg_neg, show (-x).tmod 2 = (-x) % 2 from Int.tmod_eq_emod_of_nonneg (by omega)] at e
  exact e
theorem td2 (x : Int) (h : x < 0) : x.tdiv 2 = -((-x) / 2) := by
  have e := Int.neg_tdiv (-x) 2
  rw [Int.neg_neg, show (-x).tdiv 2 = (-x) / 2 from Int.tdiv_eq_ediv_of_nonneg (by omega)] at e
  exact e
set_option maxRecDepth 100000 in
theorem bit_any (n : Int) (k : Nat) (w : World) (h0 : -9223372036854775808 ≤ n) (h1 : n ≤ 9223372036854775807) (hk : k < 64) :
    Calls Try.prog 135 #[.int .i64 n, .int .i64 k] w fun e w' => e = .returned (.int .i64 (bit (un n) k : Nat)) ∧ w = w' := by
  have hbit := Lib.hid (bit_un n k hk)
  generalize bit (un n) k = z at *
  have Hn := Lib.hid (rfl : n = n)
  go_enter Try.func135, Try.ntmps135
  go_wp2
  go_loop [0, 5] (fun xx ii => ∃ j x, j ≤ k ∧ ii = .int .i64 (j : Nat) ∧ xx = .int .i64 (x : Int) ∧ Hid (x = n / 2 ^ j) ∧ -9223372036854775808 ≤ x ∧ x ≤ 9223372036854775807) (fun _ ii => k - (intOf ii).toNat)
  case atStart => exact ⟨0, n, Nat.zero_le _, rfl, rfl, by show n = n / 2 ^ 0; simp, h0, h1⟩
  case round =>
    obtain ⟨j, x, hj, rfl, rfl, hx, hx0, hx1⟩ := hrel
    by_cases hlt : j < k
    · have hx2 : Hid (x / 2 = n / 2 ^ (j + 1)) := by
        show _ = _
        rw [hx.out, Int.pow_succ, Int.ediv_ediv_of_nonneg (by have : (0 : Int) < 2 ^ j := Int.pow_pos (by omega); omega)]
      by_cases hpos : 0 ≤ x
      · have hn : ¬ x < 0 := by omega
        have b1 : -9223372036854775808 ≤ x / 2 ∧ x / 2 ≤ 9223372036854775807 := by omega
        go_wp2
        go_round
        case rel => exact ⟨j + 1, x / 2, by omega, by go_num, rfl, hx2, b1.1, b1.2⟩
        case measure => simp [intOf]; omega
      · have hn : x < 0 := by omega
        by_cases hodd : x % 2 = 1
        · have e1 : (x.tmod 2 != 0) = true := by rw [bne_iff_ne, tm2 x hn]; omega
          have hx0' : -9223372036854775807 ≤ x := by omega
          have e2 : (x - 1).tdiv 2 = x / 2 := by rw [td2 _ (by omega)]; omega
          have b1 : -9223372036854775808 ≤ x / 2 ∧ x / 2 ≤ 9223372036854775807 := by omega
          clear hodd
          go_wp2
          go_round
          case rel => exact ⟨j + 1, x / 2, by omega, by go_num, rfl, hx2, b1.1, b1.2⟩
          case measure => simp [intOf]; omega
        · have e1 : (x.tmod 2 != 0) = false := by rw [bne_eq_false_iff_eq, tm2 x hn]; omega
          have e2 : x.tdiv 2 = x / 2 := by rw [td2 _ (by omega)]; omega
          have b1 : -9223372036854775808 ≤ x / 2 ∧ x / 2 ≤ 9223372036854775807 := by omega
          clear hodd
          go_wp2
          go_round
          case rel => exact ⟨j + 1, x / 2, by omega, by go_num, rfl, hx2, b1.1, b1.2⟩
          case measure => simp [intOf]; omega
    · have hjk : j = k := by omega
      subst hjk
      have hfin : Hid ((z : Int) = x % 2) := by show _ = _; rw [hbit.out, hx.out]
      have hz : x.tmod 2 = 0 ∨ (x.tmod 2 == 0) = false := by
        by_cases h : x.tmod 2 = 0
        · exact .inl h
        · exact .inr (by rw [beq_eq_false_iff_ne]; exact h)
      have hp : x % 2 = 0 ↔ x.tmod 2 = 0 := by
        by_cases hpos : 0 ≤ x
        · rw [Int.tmod_eq_emod_of_nonneg hpos]
        · rw [tm2 x (by omega)]; omega
      by_cases h2 : x % 2 = 0
      · have e0 : (x.tmod 2 == 0) = true := by rw [beq_iff_eq]; exact hp.1 h2
        have e0' : (x % 2 == 0) = true := by rw [beq_iff_eq]; exact h2
        have hf : Hid ((z : Int) = 0) := by show _ = _; rw [hfin.out]; exact h2
        clear hp hz h2 hfin
        go_wp2
        go_ret
        exact ⟨ret_int hf.out.symm, rfl⟩
      · have e0 : (x.tmod 2 == 0) = false := by rw [beq_eq_false_iff_ne]; intro h; exact h2 (hp.2 h)
        have e0' : (x % 2 == 0) = false := by rw [beq_eq_false_iff_ne]; exact h2
        have hf : Hid ((z : Int) = 1) := by show _ = _; rw [hfin.out]; omega
        clear hp hz h2 hfin
        go_wp2
        go_ret
        exact ⟨ret_int hf.out.symm, rfl⟩
end Go.Proofs.Ytalmdccgpigppaa
namespace Go.Proofs.Ytalmdccgpigppaa
open Go.RowKit

theorem allbits_any (n : Int) (w : World) (h0 : -9223372036854775808 ≤ n) (h1 : n ≤ 9223372036854775807) :
    Calls Try.prog 117 #[.int .i64 n] w fun e w' => ∃ A c, e = .returned (.slice A 64 c) ∧ Ow iv w' w.heap.size 3 A 64 c (tab 64 (bit (un n))) ∧ Below w.heap.size w w' := by
  have hbit := fun k w => bit_any n k w h0 h1
  generalize un n = U at *
  go_enter Try.func117, Try.ntmps117
  go_wp2
  go_loopw [3, 4] (fun v i wr => ∃ k A c, k ≤ 64 ∧ i = .int .i64 (k : Nat) ∧ v = .slice A k c ∧ Ow iv wr w.heap.size 3 A k c (tab k (bit U)) ∧ Below w.heap.size w wr) (fun _ i _ => 64 - (intOf i).toNat)
  case atStart => exact ⟨0, none, 0, by omega, rfl, rfl, Ow.nil _ _ _ _, Below.refl _ _⟩
  case round =>
    obtain ⟨k, A, c, hk, rfl, rfl, hown, hb⟩ := hrel
    have hbs := hb.size
    by_cases hk64 : k < 64
    · go_wp2_with (first
        | (go_at_call 135; (with_reducible refine (hbit k _ hk64).mono ?_); rintro e w' ⟨rfl, rfl⟩)
        | (at_builtin; refine wpList_app rfl rfl elemInt iv_one (s := .tmp 9) (N := k + 1) (L := tab (k + 1) (bit U)) rfl (hown.below (b := wr.heap.size) (by (repeat' (first | (with_reducible exact Below.refl _ _) | (with_reducible assumption) | (with_reducible refine Below.drew ?_) | (with_reducible refine below_drewN ?_ _) | (with_reducible refine Below.alloc ?_ ?_ _) | (with_reducible refine Below.setCell ?_ ?_ _) | omega | (simp; done) | (simp; omega)))) (by first | omega | (simp; done) | (simp; omega))) rfl (k := [((bit U k : Nat) : Int)]) (Rd.of_block (l := [((bit U k : Nat) : Int)]) (heap_top _ _ (by simp)) rfl) rfl (tab_succ k (bit U)) (by unfold maxLen; omega) (by omega) (by first | omega | (simp; done) | (simp; omega)) ?_; intro A5 c5 w5 hown5 hg5 hat5 hb5))
      replace hb5 := below_then' (a := w) (B := w.heap.size) (by (repeat' (first | (with_reducible exact Below.refl _ _) | (with_reducible assumption) | (with_reducible refine Below.drew ?_) | (with_reducible refine below_drewN ?_ _) | (with_reducible refine Below.alloc ?_ ?_ _) | (with_reducible refine Below.setCell ?_ ?_ _) | omega | (simp; done) | (simp; omega)))) hb5 (by first | omega | (simp; done) | (simp; omega)); have hb5s := hb5.size
      go_roundw
      case rel => exact ⟨k + 1, A5, c5, by omega, by go_num, rfl, hown5, hb5⟩
      case measure => simp [intOf]; omega
    · have hk9 : k = 64 := by omega
      subst hk9
      go_wp2
      go_ret
      exact ⟨A, c, rfl, hown, hb⟩

theorem RI.tab_cell {w : World} {b o n : Nat} {f : Nat → Nat} (h : RI w (some ⟨b, o, none⟩) n (tab n f)) {k : Nat} (hk : k < n) : w.cell? ⟨b, o + k, none⟩ = some (.int .i64 (f k : Nat)) := by
  obtain ⟨b', o', hA, _, hc⟩ := h.at_ hk
  injection hA with hA
  injection hA with h1 h2 _
  subst h1 h2
  rw [hc, tab_at f hk]
theorem RI.addr {w : World} {A : Option Addr} {n : Nat} {l : List Int} (h : RI w A n l) (hn : 0 < n) : ∃ b o, A = some ⟨b, o, none⟩ ∧ b < w.heap.size := by
  obtain ⟨b, o, hA, hb, _⟩ := h.at_ hn
  exact ⟨b, o, hA, hb⟩

theorem number_any (A : Option Addr) (c U : Nat) (w : World) (hU : U < 18446744073709551616) (hl : RI w A 64 (tab 64 (bit U))) :
    Calls Try.prog 119 #[.slice A 64 c] w fun e w' => e = .returned (.int .i64 (sg U)) ∧ w = w' := by
  obtain ⟨b, o, rfl, hb⟩ := hl.addr (by omega)
  have h63 := hl.tab_cell (k := 63) (by omega)
  have hcell : ∀ k, k < 64 → Hid (w.cell? ⟨b, o + k, none⟩ = some (.int .i64 (bit U k : Nat))) := fun k hk => hl.tab_cell hk
  have hz : Hid (sg U = if bit U 63 = 1 then ((U % 9223372036854775808 : Nat) : Int) - 4611686018427387904 - 4611686018427387904 else ((U % 9223372036854775808 : Nat) : Int)) := by
    show _ = _
    unfold sg bit
    have : (2 : Nat) ^ 63 = 9223372036854775808 := rfl
    rw [this]
    split <;> split <;> omega
  generalize sg U = z at *
  go_enter Try.func119, Try.ntmps119
  go_wp2
  go_loop [3, 4] (fun vv kk => ∃ m v, m ≤ 63 ∧ kk = .int .i64 (62 - (m : Nat)) ∧ vv = .int .i64 (v : Nat) ∧ Hid (v = U % 9223372036854775808 / 2 ^ (63 - m)) ∧ v ≤ 9223372036854775807) (fun _ kk => (intOf kk + 1).toNat)
  case atStart => exact ⟨0, 0, by omega, rfl, rfl, by show 0 = _; omega, by omega⟩
  case round =>
    obtain ⟨m, v, hm, rfl, rfl, hv, hv2⟩ := hrel
    by_cases hm63 : m < 63
    · have hc := (hcell (62 - m) (by omega)).out
      have hv3 : Hid (2 * v + bit U (62 - m) = U % 9223372036854775808 / 2 ^ (63 - (m + 1))) := by
        show _ = _
        have e1 : bit U (62 - m) = U % 9223372036854775808 / 2 ^ (62 - m) % 2 := by
          have e : (9223372036854775808 : Nat) = 2 ^ (62 - m) * 2 ^ (m + 1) := by rw [← Nat.pow_add, show 62 - m + (m + 1) = 63 from by omega]
          unfold bit
          rw [e, Nat.mod_mul_right_div_self, Nat.pow_succ, Nat.mod_mul_left_mod]
        rw [hv.out, show 63 - m = (62 - m) + 1 from by omega, show 63 - (m + 1) = 62 - m from by omega, Nat.pow_succ, ← Nat.div_div_eq_div_mul, e1]
        omega
      have hv4 : 2 * v + bit U (62 - m) ≤ 9223372036854775807 := by
        rw [hv3.out]
        have := Nat.div_le_self (U % 9223372036854775808) (2 ^ (63 - (m + 1)))
        omega
      generalize bit U (62 - m) = y at *
      clear hcell h63
      go_wp2
      go_round
      case rel => exact ⟨m + 1, 2 * v + y, by omega, by go_num, by go_num, hv3, hv4⟩
      case measure => simp [intOf]; omega
    · have hm9 : m = 63 := by omega
      subst hm9
      have hv3 : Hid (v = U % 9223372036854775808) := by show _ = _; rw [hv.out]; simp
      have hbl := bit_le U 63
      clear hcell hv
      generalize bit U 63 = t at *
      by_cases ht : t = 1
      · subst ht
        have hz2 : Hid (z = (v : Int) - 4611686018427387904 - 4611686018427387904) := by show _ = _; rw [hz.out, hv3.out]; rfl
        go_wp2
        go_ret
        exact ⟨ret_int hz2.out.symm, rfl⟩
      · have ht0 : (((t : Nat) : Int) == 1) = false := by rw [beq_eq_false_iff_ne]; omega
        have hz2 : Hid (z = (v : Int)) := by show _ = _; rw [hz.out, hv3.out, if_neg ht]
        clear ht hz
        go_wp2
        go_ret
        exact ⟨ret_int hz2.out.symm, rfl⟩

end Go.Proofs.Ytalmdccgpigppaa
namespace Go.Proofs.Ytalmdccgpigppaa
open Go.RowKit

theorem getL_at (l : List UInt8) : ∀ k, k < l.length → getL l / 256 ^ k % 256 = byteAt l k := by
  induction l with
  | nil => intro k h; simp at h
  | cons c l ih =>
    intro k h
    cases k with
    | zero => simp only [getL, Nat.pow_zero, Nat.div_one]; have := c.toNat_lt; simp [byteAt]
    | succ k =>
      have e := ih k (by simpa using h)
      have hb : byteAt (c :: l) (k + 1) = byteAt l k := by simp [byteAt]
      rw [hb, ← e, Nat.pow_succ, Nat.mul_comm (256 ^ k) 256, ← Nat.div_div_eq_div_mul]
      have := c.toNat_lt
      simp only [getL]
      rw [show (c.toNat + 256 * getL l) / 256 = getL l from by omega]
theorem getL_bit (l : List UInt8) (k m : Nat) (hk : k < l.length) (hm : m < 8) : bit (getL l) (8 * k + m) = byteAt l k / 2 ^ m % 2 := by
  rw [← getL_at l k hk]
  unfold bit
  rw [Nat.pow_add, ← Nat.div_div_eq_div_mul, Nat.pow_mul]
  generalize getL l / (2 ^ 8) ^ k = V
  have e : (256 : Nat) = 2 ^ m * 2 ^ (8 - m) := by rw [← Nat.pow_add, show m + (8 - m) = 8 from by omega]
  rw [e, Nat.mod_mul_right_div_self, show 8 - m = (7 - m) + 1 from by omega, Nat.pow_succ, Nat.mod_mul_left_mod]

end Go.Proofs.Ytalmdccgpigppaa
namespace Go.Proofs.Ytalmdccgpigppaa
open Go.RowKit

set_option maxRecDepth 100000 in
theorem refshort_any (f : Nat) : ∀ (n : Nat) (w : World), n < 128 ^ (f + 1) → f ≤ 9 → n < 9223372036854775808 →
    Calls Try.prog 121 #[.int .i64 n] w fun e w' => ∃ A c, e = .returned (.slice A (digL f n).length c) ∧ OB w' w.heap.size 5 A (digL f n).length c (digL f n) ∧ Below w.heap.size w w' := by
  have hsmall : ∀ (f n : Nat) (w : World), n < 128 → Calls Try.prog 121 #[.int .i64 n] w fun e w' => ∃ A c, e = .returned (.slice A (digL f n).length c) ∧ OB w' w.heap.size 5 A (digL f n).length c (digL f n) ∧ Below w.heap.size w w' := by
    intro f n w hn
    rw [digL_lt hn]
    have hbv := Lib.hid (bv_ofNat (v := n) (by omega))
    go_enter Try.func121, Try.ntmps121
    go_wp2_with fail
    go_ret
    refine ⟨_, 1, rfl, Ow.new (enc := bv) w 5 _ [UInt8.ofNat n] (by rw [List.map_cons, hbv.out]; rfl) (by simp [maxLen]), (by (repeat' (first | (with_reducible exact Below.refl _ _) | (with_reducible assumption) | (with_reducible refine Below.drew ?_) | (with_reducible refine below_drewN ?_ _) | (with_reducible refine Below.alloc ?_ ?_ _) | (with_reducible refine Below.setCell ?_ ?_ _) | omega | (simp; done) | (simp; omega))))⟩
  induction f with
  | zero => intro n w h _ _; exact hsmall 0 n w (by omega)
  | succ f ih =>
    intro n w h hf h63
    by_cases hn : n < 128
    · exact hsmall (f + 1) n w hn
    · have hdef : Hid (digL (f + 1) n = [UInt8.ofNat (n % 128 + 128)] ++ digL f (n / 128)) := by
        show digL (f + 1) n = _
        conv => lhs; unfold digL
        rw [if_neg hn]; rfl
      have hc := fun w => ih (n / 128) w (by rw [Nat.pow_succ] at h; omega) (by omega) (by omega)
      rw [show ((n / 128 : Nat) : Int) = (n : Int) / 128 from by omega] at hc
      have hlen := (digL_len f (n / 128)).1
      have hbv := Lib.hid (bv_ofNat (v := n % 128 + 128) (by omega))
      clear ih hsmall
      generalize digL f (n / 128) = L at *
      have hll : (digL (f + 1) n).length = 1 + L.length := by rw [hdef.out, List.length_append]; rfl
      rw [hll]
      clear hll
      generalize digL (f + 1) n = M at *
      have hnew : ∀ w : World, Hid (Ow bv (w.alloc (.cells #[.int .u8 ((n : Int) % 128 + 128)] 5)) w.heap.size 5 (some ⟨w.heap.size, 0, none⟩) 1 1 [UInt8.ofNat (n % 128 + 128)]) := fun w =>
        Ow.new (enc := bv) w 5 #[.int .u8 ((n : Int) % 128 + 128)] [UInt8.ofNat (n % 128 + 128)] (by rw [List.map_cons, hbv.out]; rfl) (by simp [maxLen])
      go_enter Try.func121, Try.ntmps121
      go_wp2_with (first
        | (go_at_call 121; (with_reducible refine (hc _).mono ?_); rintro e w1 ⟨A, c, rfl, hown, hb⟩; have hbs := hb.size)
        | (at_builtin; refine wpList_app rfl rfl elemU8 bv_one (s := .tmp 12) (N := 1 + L.length) (L := M) rfl ((hnew w).out.below hb (Nat.le_refl _)) rfl hown.rd rfl hdef.out.symm (by unfold maxLen; omega) (by omega) (by simp at hbs; omega) ?_; intro A5 c5 w5 hown5 hg5 hat5 hb5; replace hb := below_then' (a := w) (B := w.heap.size) (by (repeat' (first | (with_reducible exact Below.refl _ _) | (with_reducible assumption) | (with_reducible refine Below.drew ?_) | (with_reducible refine below_drewN ?_ _) | (with_reducible refine Below.alloc ?_ ?_ _) | (with_reducible refine Below.setCell ?_ ?_ _) | omega | (simp; done) | (simp; omega)))) hb (by first | omega | (simp; done) | (simp; omega)); replace hb5 := below_then' hb hb5 (Nat.le_refl _)))
      go_ret
      exact ⟨A5, c5, rfl, hown5, hb5⟩
theorem refshort (n : Nat) (w : World) (h : n < 9223372036854775808) :
    Calls Try.prog 121 #[.int .i64 n] w fun e w' => ∃ A c, e = .returned (.slice A (digL 9 n).length c) ∧ OB w' w.heap.size 5 A (digL 9 n).length c (digL 9 n) ∧ Below w.heap.size w w' :=
  refshort_any 9 n w (by omega) (by omega) h

end Go.Proofs.Ytalmdccgpigppaa
namespace Go.Proofs.Ytalmdccgpigppaa
open Go.RowKit

theorem sevL_drop (l : List UInt8) (k : Nat) (h : k < l.length) : sevL (l.drop k) = byteAt l k % 128 + 128 * sevL (l.drop (k + 1)) := by
  rw [List.drop_eq_getElem_cons h]; simp [sevL, byteAt, List.getD_eq_getElem?_getD, h]
theorem byteAt_take (l : List UInt8) (s k : Nat) (h : k < s) : byteAt (l.take s) k = byteAt l k := by
  unfold byteAt; simp [List.getD_eq_getElem?_getD, h]

/-! ### Turned numbers -/
set_option maxRecDepth 100000 in
theorem turned_any (n : Int) (w : World) (h0 : -9223372036854775808 ≤ n) (h1 : n ≤ 9223372036854775807) :
    Calls Try.prog 136 #[.int .i64 n] w fun e w' => ∃ A c, e = .returned (.slice A 64 c) ∧ Ow iv w' w.heap.size 3 A 64 c (tab 64 (bit (zz n))) ∧ Below w.heap.size w w' := by
  have hbits := fun w => allbits_any n w h0 h1
  have hz0 := Lib.hid (bit_zz0 h0 h1)
  have hz := fun k hk => Lib.hid (bit_zz h0 h1 k hk)
  generalize un n = U at *
  generalize zz n = Z at *
  go_enter Try.func136, Try.ntmps136
  go_wp2_with (go_at_call 117; (with_reducible refine (hbits _).mono ?_); rintro e w1 ⟨B, d, rfl, hownb, hb1⟩; have hb1s := hb1.size; obtain ⟨gb, rfl, _, hgb⟩ := hownb.addr (by omega); have h63 := hownb.tab_cell (k := 63) (by omega))
  have hown0 : Ow iv (w1.alloc (.cells #[.int .i64 (bit U 63 : Nat)] 3)) w1.heap.size 3 (some ⟨w1.heap.size, 0, none⟩) 1 1 (tab 1 (bit Z)) := by
    have := Ow.new (enc := iv) w1 3 #[.int .i64 (bit U 63 : Nat)] [((bit U 63 : Nat) : Int)] rfl (by simp [maxLen])
    rw [← hz0.out] at this ⊢
    exact this
  have hb0 : Below w1.heap.size w1 (w1.alloc (.cells #[.int .i64 (bit U 63 : Nat)] 3)) := (by (repeat' (first | (with_reducible exact Below.refl _ _) | (with_reducible assumption) | (with_reducible refine Below.drew ?_) | (with_reducible refine below_drewN ?_ _) | (with_reducible refine Below.alloc ?_ ?_ _) | (with_reducible refine Below.setCell ?_ ?_ _) | omega | (simp; done) | (simp; omega))))
  generalize w1.alloc (.cells #[.int .i64 (bit U 63 : Nat)] 3) = w2 at *
  have hb0s := hb0.size
  have hcell : ∀ k, k < 64 → Hid (w1.cell? ⟨gb, k, none⟩ = some (.int .i64 (bit U k : Nat))) := fun k hk => hownb.tab_cell hk
  clear h63 hbits
  go_loopw [4, 5] (fun v i wr => ∃ k A c, k ≤ 63 ∧ i = .int .i64 (k : Nat) ∧ v = .slice A (k + 1) c ∧ Ow iv wr w1.heap.size 3 A (k + 1) c (tab (k + 1) (bit Z)) ∧ Below w1.heap.size w1 wr) (fun _ i _ => 63 - (intOf i).toNat)
  case atStart => exact ⟨0, _, 1, by omega, rfl, rfl, hown0, hb0⟩
  case round =>
    obtain ⟨k, A, c, hk, rfl, rfl, hown, hb⟩ := hrel
    have hbs := hb.size
    by_cases hk63 : k < 63
    · have hc := (hb.cell (p := ⟨gb, k, none⟩) hgb).trans (hcell k (by omega)).out
      have h63 := (hb.cell (p := ⟨gb, 63, none⟩) hgb).trans (hcell 63 (by omega)).out
      have hzk := hz k hk63
      have hl1 := bit_le U k
      have hl2 := bit_le U 63
      generalize bit U k = y at *
      generalize bit U 63 = s at *
      clear hcell hz hownb
      by_cases hs : s = 1
      · have hs1 : (((s : Nat) : Int) == 1) = true := by rw [beq_iff_eq]; omega
        have hL : Hid (tab (k + 1) (bit Z) ++ [1 - ((y : Nat) : Int)] = tab (k + 1 + 1) (bit Z)) := by
          show _ = _
          rw [← tab_succ (k + 1), hzk.out, if_pos hs]; congr 2; omega
        clear hs hzk
        go_wp2_with (at_builtin; refine wpList_app rfl rfl elemInt iv_one (s := .tmp 20) (N := k + 1 + 1) (L := tab (k + 1 + 1) (bit Z)) rfl (hown.below (b := wr.heap.size) (by (repeat' (first | (with_reducible exact Below.refl _ _) | (with_reducible assumption) | (with_reducible refine Below.drew ?_) | (with_reducible refine below_drewN ?_ _) | (with_reducible refine Below.alloc ?_ ?_ _) | (with_reducible refine Below.setCell ?_ ?_ _) | omega | (simp; done) | (simp; omega)))) (by first | omega | (simp; done) | (simp; omega))) rfl (k := [1 - ((y : Nat) : Int)]) (Rd.of_block (l := [1 - ((y : Nat) : Int)]) (heap_top _ _ (by simp)) rfl) rfl (hL.out) (by unfold maxLen; omega) (by omega) (by first | omega | (simp; done) | (simp; omega)) ?_; intro A5 c5 w5 hown5 hg5 hat5 hb5)
        replace hb5 := below_then' (a := w1) (B := w1.heap.size) (by (repeat' (first | (with_reducible exact Below.refl _ _) | (with_reducible assumption) | (with_reducible refine Below.drew ?_) | (with_reducible refine below_drewN ?_ _) | (with_reducible refine Below.alloc ?_ ?_ _) | (with_reducible refine Below.setCell ?_ ?_ _) | omega | (simp; done) | (simp; omega)))) hb5 (by first | omega | (simp; done) | (simp; omega)); have hb5s := hb5.size
        go_roundw
        case rel => exact ⟨k + 1, A5, c5, by omega, by go_num, rfl, hown5, hb5⟩
        case measure => simp [intOf]; omega
      · have hs1 : (((s : Nat) : Int) == 1) = false := by rw [beq_eq_false_iff_ne]; omega
        have hL : Hid (tab (k + 1) (bit Z) ++ [((y : Nat) : Int)] = tab (k + 1 + 1) (bit Z)) := by
          show _ = _
          rw [← tab_succ (k + 1), hzk.out, if_neg hs]
        clear hs hzk
        go_wp2_with (at_builtin; refine wpList_app rfl rfl elemInt iv_one (s := .tmp 28) (N := k + 1 + 1) (L := tab (k + 1 + 1) (bit Z)) rfl (hown.below (b := wr.heap.size) (by (repeat' (first | (with_reducible exact Below.refl _ _) | (with_reducible assumption) | (with_reducible refine Below.drew ?_) | (with_reducible refine below_drewN ?_ _) | (with_reducible refine Below.alloc ?_ ?_ _) | (with_reducible refine Below.setCell ?_ ?_ _) | omega | (simp; done) | (simp; omega)))) (by first | omega | (simp; done) | (simp; omega))) rfl (k := [((y : Nat) : Int)]) (Rd.of_block (l := [((y : Nat) : Int)]) (heap_top _ _ (by simp)) rfl) rfl (hL.out) (by unfold maxLen; omega) (by omega) (by first | omega | (simp; done) | (simp; omega)) ?_; intro A5 c5 w5 hown5 hg5 hat5 hb5)
        replace hb5 := below_then' (a := w1) (B := w1.heap.size) (by (repeat' (first | (with_reducible exact Below.refl _ _) | (with_reducible assumption) | (with_reducible refine Below.drew ?_) | (with_reducible refine below_drewN ?_ _) | (with_reducible refine Below.alloc ?_ ?_ _) | (with_reducible refine Below.setCell ?_ ?_ _) | omega | (simp; done) | (simp; omega)))) hb5 (by first | omega | (simp; done) | (simp; omega)); have hb5s := hb5.size
        go_roundw
        case rel => exact ⟨k + 1, A5, c5, by omega, by go_num, rfl, hown5, hb5⟩
        case measure => simp [intOf]; omega
    · have hk9 : k = 63 := by omega
      subst hk9
      clear hcell hz
      go_wp2
      go_ret
      exact ⟨A, c, rfl, hown.rebase hb1s, below_then' hb1 hb hb1s⟩
end Go.Proofs.Ytalmdccgpigppaa
namespace Go.Proofs.Ytalmdccgpigppaa
open Go.RowKit

theorem bit_part (Z i k : Nat) (hk : k < 7) : bit Z (7 * i + k) = Z / 128 ^ i % 128 / 2 ^ k % 2 := by
  have e : (128 : Nat) = 2 ^ k * 2 ^ (7 - k) := by rw [← Nat.pow_add, show k + (7 - k) = 7 from by omega]
  have e' : (128 : Nat) ^ i = 2 ^ (7 * i) := by rw [Nat.pow_mul]
  unfold bit
  rw [Nat.pow_add, ← Nat.div_div_eq_div_mul, ← e']
  generalize Z / 128 ^ i = V
  rw [e, Nat.mod_mul_right_div_self, show 7 - k = (6 - k) + 1 from by omega, Nat.pow_succ, Nat.mod_mul_left_mod]

set_option maxRecDepth 100000 in
set_option maxHeartbeats 1000000 in
theorem refzig_any (n : Int) (w : World) (h0 : -9223372036854775808 ≤ n) (h1 : n ≤ 9223372036854775807) :
    Calls Try.prog 122 #[.int .i64 n] w fun e w' => ∃ A c, e = .returned (.slice A (digL 9 (zz n)).length c) ∧ OB w' w.heap.size 5 A (digL 9 (zz n)).length c (digL 9 (zz n)) ∧ Below w.heap.size w w' := by
  have hturn := fun w => turned_any n w h0 h1
  have hZ := zz_lt h0 h1
  generalize zz n = Z at *
  have hpos := Lib.hid (digL_pos 9 Z (by omega))
  have htab := Lib.hid (digL_tab 9 Z (by omega))
  have hlen := digL_len 9 Z
  generalize digL 9 Z = D at *
  have HM := Lib.hid (rfl : D.length = D.length)
  obtain ⟨M, hM⟩ : ∃ M, D.length = M := ⟨_, rfl⟩
  rw [hM] at hpos htab hlen ⊢
  clear hM HM
  go_enter Try.func122, Try.ntmps122
  go_wp2_with (go_at_call 136; (with_reducible refine (hturn _).mono ?_); rintro e w1 ⟨B, d, rfl, hownb, hb1⟩)
  have hb1s := hb1.size
  obtain ⟨gb, rfl, _, hgb⟩ := hownb.addr (by omega)
  have hcell : ∀ k, k < 64 → Hid (w1.cell? ⟨gb, k, none⟩ = some (.int .i64 (bit Z k : Nat))) := fun k hk => hownb.tab_cell hk
  clear hturn hownb
  go_loopw [4, 5] (fun v i wr => ∃ k A c, k ≤ 10 ∧ i = .int .i64 (k : Nat) ∧ v = .slice A k c ∧ OB wr w1.heap.size 5 A k c (tabB k (fun i => Z / 128 ^ i % 128)) ∧ Below w1.heap.size w1 wr) (fun _ i _ => 10 - (intOf i).toNat)
  case atStart => exact ⟨0, none, 0, by omega, rfl, rfl, Ow.nil _ _ _ _, Below.refl _ _⟩
  case round =>
    obtain ⟨k, A, c, hk, rfl, rfl, hown, hb⟩ := hrel
    have hbs := hb.size
    by_cases hk8 : k < 10
    · go_wp2
      obtain ⟨wo, rfl⟩ : ∃ wo : World, wo = wr := ⟨_, rfl⟩
      go_loop [6, 7] (fun cc jj => ∃ m x, m ≤ 7 ∧ jj = .int .i64 (6 - (m : Nat)) ∧ cc = .int .i64 (x : Nat) ∧ Hid (x = Z / 128 ^ k % 128 / 2 ^ (7 - m)) ∧ x ≤ 127) (fun _ jj => (intOf jj + 1).toNat)
      case atStart => exact ⟨0, 0, by omega, rfl, rfl, by show 0 = _; omega, by omega⟩
      case round =>
        obtain ⟨m, x, hm, rfl, rfl, hx, hx2⟩ := hrel
        by_cases hm8 : m < 7
        · have hx3 : Hid (2 * x + bit Z (7 * k + (6 - m)) = Z / 128 ^ k % 128 / 2 ^ (7 - (m + 1))) := by
            show _ = _
            rw [hx.out, bit_part Z k (6 - m) (by omega), show 7 - m = (6 - m) + 1 from by omega, show 7 - (m + 1) = 6 - m from by omega, Nat.pow_succ, ← Nat.div_div_eq_div_mul]
            omega
          have hx4 : 2 * x + bit Z (7 * k + (6 - m)) ≤ 127 := by
            rw [hx3.out]
            have := Nat.div_le_self (Z / 128 ^ k % 128) (2 ^ (7 - (m + 1)))
            omega
          by_cases h64 : 7 * k + (6 - m) < 64
          · have hc := (hb.cell (p := ⟨gb, 7 * k + (6 - m), none⟩) hgb).trans (hcell (7 * k + (6 - m)) h64).out
            have hd : decide (7 * (k : Int) + (6 - (m : Int)) < 64) = true := by rw [decide_eq_true_eq]; omega
            generalize bit Z (7 * k + (6 - m)) = y at *
            clear hcell
            go_wp2
            go_round
            case rel => exact ⟨m + 1, 2 * x + y, by omega, by go_num, by go_num, hx3, hx4⟩
            case measure => simp [intOf]; omega
          · have hd : decide (7 * (k : Int) + (6 - (m : Int)) < 64) = false := by rw [decide_eq_false_iff_not]; omega
            rw [bit_high (n := 64) hZ (by omega)] at hx3
            have hx0 : Hid (x = Z / 128 ^ k % 128 / 2 ^ (7 - (m + 1))) := by
              have h1 : x = 0 := by
                rw [hx.out]
                have hbig : Z / 128 ^ k % 128 < 2 ^ (7 - m) := by
                  have hk9 : k = 9 := by omega
                  subst hk9
                  have : Z / 128 ^ 9 ≤ 1 := by omega
                  have h2 : 2 ^ 1 ≤ 2 ^ (7 - m) := Nat.pow_le_pow_right (by omega) (by omega)
                  omega
                exact Nat.div_eq_of_lt hbig
              have h2 := hx3.out
              show x = _
              rw [← h2]; omega
            clear hcell hx3
            go_wp2
            go_round
            case rel => exact ⟨m + 1, x, by omega, by go_num, rfl, hx0, by omega⟩
            case measure => simp [intOf]; omega
        · have hm9 : m = 7 := by omega
          subst hm9
          have hx3 : Hid (tabB k (fun i => Z / 128 ^ i % 128) ++ [UInt8.ofNat x] = tabB (k + 1) (fun i => Z / 128 ^ i % 128)) := by
            show _ = _
            rw [← tabB_succ]; congr 3; rw [hx.out]; simp
          have hbv := Lib.hid (bv_ofNat (v := x) (by omega))
          clear hcell hx
          go_wp2_with (at_builtin; refine wpList_app rfl rfl elemU8 bv_one (s := .tmp 34) (N := k + 1) (L := tabB (k + 1) (fun i => Z / 128 ^ i % 128)) rfl (hown.below (b := wo.heap.size) (by (repeat' (first | (with_reducible exact Below.refl _ _) | (with_reducible assumption) | (with_reducible refine Below.drew ?_) | (with_reducible refine below_drewN ?_ _) | (with_reducible refine Below.alloc ?_ ?_ _) | (with_reducible refine Below.setCell ?_ ?_ _) | omega | (simp; done) | (simp; omega)))) (by first | omega | (simp; done) | (simp; omega))) rfl (k := [UInt8.ofNat x]) (Rd.of_block (l := [UInt8.ofNat x]) (heap_top _ _ (by simp)) (congrArg (fun x => [x]) hbv.out.symm)) rfl hx3.out (by unfold maxLen; omega) (by omega) (by first | omega | (simp; done) | (simp; omega)) ?_; intro A5 c5 w5 hown5 hg5 hat5 hb5)
          replace hb5 := below_then' (a := w1) (B := w1.heap.size) (by (repeat' (first | (with_reducible exact Below.refl _ _) | (with_reducible assumption) | (with_reducible refine Below.drew ?_) | (with_reducible refine below_drewN ?_ _) | (with_reducible refine Below.alloc ?_ ?_ _) | (with_reducible refine Below.setCell ?_ ?_ _) | omega | (simp; done) | (simp; omega)))) hb5 (by first | omega | (simp; done) | (simp; omega)); have hb5s := hb5.size
          go_roundw
          case rel => exact ⟨k + 1, A5, c5, by omega, by go_num, rfl, hown5, hb5⟩
          case measure => simp [intOf]; omega
    · have hk9 : k = 10 := by omega
      subst hk9
      obtain ⟨g, rfl, hgb, _⟩ := hown.addr (by omega)
      clear hcell
      go_wp2
      obtain ⟨wo, rfl⟩ : ∃ wo : World, wo = wr := ⟨_, rfl⟩
      go_loop [4] (fun vv => ∃ j, M ≤ j ∧ j ≤ 10 ∧ vv = .slice (some ⟨g, 0, none⟩) j c ∧ Hid (Z < 128 ^ j)) (fun vv => lenIn vv)
      case atStart => exact ⟨10, by omega, by omega, rfl, by show Z < 128 ^ 10; omega⟩
      case round =>
        obtain ⟨j, hj, hj10, rfl, hZj⟩ := hrel
        have hstop : Hid ((1 < j ∧ Z / 128 ^ (j - 1) % 128 ≠ 0) ∨ j = 1 → j = M) := by
          intro h
          have h1 := hpos.out
          rcases Nat.lt_or_ge M j with hlt | hge
          · exfalso
            rcases h with ⟨_, hne⟩ | h
            · have h2 : 128 ^ M ≤ 128 ^ (j - 1) := Nat.pow_le_pow_right (by omega) (by omega)
              rw [Nat.div_eq_of_lt (by omega)] at hne
              exact hne rfl
            · omega
          · omega
        have hend : ∀ (K : Prop), (j = M → K) → ((1 < j ∧ Z / 128 ^ (j - 1) % 128 ≠ 0) ∨ j = 1) → K := fun K h1 h2 => h1 (hstop.out h2)
        have Hend := Lib.hid hend
        clear hend hstop
        have hcase : (1 < j ∧ Z / 128 ^ (j - 1) % 128 = 0) ∨ ((1 < j ∧ Z / 128 ^ (j - 1) % 128 ≠ 0) ∨ j = 1) := by omega
        have hload : 1 < j → wo.cell? ⟨g, j - 1, none⟩ = some (.int .u8 ((Z / 128 ^ (j - 1) % 128 : Nat) : Int)) := by
          intro hj1
          obtain ⟨b1, o1, hA, _, hc⟩ := hown.rd.rb.at_ (k := j - 1) (by omega)
          injection hA with hA
          injection hA with e1 e2 _
          subst e1 e2
          rw [Nat.zero_add, tabB_at _ (by omega) (by omega)] at hc
          exact hc
        have Hload := Lib.hid hload
        clear hload
        rcases hcase with ⟨hj1, hq⟩ | hex
        · have hc := Hload.out hj1
          rw [hq] at hc
          have hcut : ∀ W : World, (Instr.slice 26 (.slice (some ⟨g, 0, none⟩) j c) none (some (.int .i64 ((j : Int) - 1))) none).run Try.prog W = .ok (.slice (some ⟨g, 0, none⟩) (j - 1) c) W := fun W => by
            have := run_cut_to elemU8 (some ⟨g, 0, none⟩) j c (j - 1) (by have := hown.cap; omega) W
            rwa [show (((j - 1 : Nat)) : Int) = (j : Int) - 1 from by omega] at this
          have hZ2 : Z < 128 ^ (j - 1) := by
            have h2 := hZj.out
            obtain ⟨q, rfl⟩ : ∃ q, j = q + 1 := ⟨j - 1, by omega⟩
            rw [Nat.add_sub_cancel] at hq ⊢
            rw [Nat.pow_succ] at h2
            have h3 : Z / 128 ^ q < 128 := by
              rw [Nat.div_lt_iff_lt_mul (Nat.pow_pos (by omega))]; omega
            have h4 : Z / 128 ^ q = 0 := by generalize Z / 128 ^ q = V at *; omega
            rcases Nat.lt_or_ge Z (128 ^ q) with h | h
            · exact h
            · have := Nat.div_pos h (Nat.pow_pos (n := q) (show 0 < 128 by omega)); omega
          have hM2 : M ≤ j - 1 := by
            rcases Nat.lt_or_ge M j with h | h
            · omega
            · exfalso
              have hMj : M = j := by omega
              have := hpos.out.2
              rw [hMj] at this
              omega
          have HZ2 := Lib.hid hZ2
          clear hZ2 hq Hend
          go_wp2
          go_round
          case rel => exact ⟨j - 1, hM2, by omega, rfl, HZ2⟩
          case measure => simp [lenIn]; omega
        · refine Hend.out _ (fun hjM => ?_) hex
          subst hjM
          have hown2 : OB wo w1.heap.size 5 (some ⟨g, 0, none⟩) j c (tabB j (fun i => if i < 0 then Z / 128 ^ i % 128 + 128 else Z / 128 ^ i % 128)) := by
            have := hown.shorter hj10
            rw [tabB_take _ hj10] at this
            simpa using this
          have hgo : ((1 < j) ∧ ∃ q, wo.cell? ⟨g, j - 1, none⟩ = some (.int .u8 ((q : Nat) : Int)) ∧ (((q : Nat) : Int) == 0) = false) ∨ decide ((1 : Int) < (j : Int)) = false := by
            rcases hex with ⟨h1, h2⟩ | h1
            · exact .inl ⟨h1, _, Hload.out h1, by rw [beq_eq_false_iff_ne]; omega⟩
            · exact .inr (by rw [decide_eq_false_iff_not]; omega)
          clear hex Hend Hload hpos hown hZj
          rcases hgo with ⟨hj1, q, hc, hq⟩ | hj1
          all_goals
            go_wp2
            go_loopw [8] (fun kk wr => ∃ k, k + 1 ≤ j ∧ kk = .int .i64 (k : Nat) ∧ OB wr w1.heap.size 5 (some ⟨g, 0, none⟩) j c (tabB j (fun i => if i < k then Z / 128 ^ i % 128 + 128 else Z / 128 ^ i % 128)) ∧ Below w1.heap.size w1 wr) (fun kk _ => j - (intOf kk).toNat)
            case atStart => exact ⟨0, by omega, rfl, hown2, hb⟩
            case round =>
              obtain ⟨k, hk, rfl, hown, hb⟩ := hrel
              have hbs := hb.size
              by_cases hkj : k + 1 < j
              · obtain ⟨b1, o1, hA, _, hc⟩ := hown.rd.rb.at_ (k := k) (by omega)
                injection hA with hA
                injection hA with e1 e2 _
                subst e1 e2
                rw [Nat.zero_add, tabB_at _ (by omega) (by simp; omega)] at hc
                simp only [Nat.lt_irrefl, if_false] at hc
                have hfree := hown.free k
                have hset := fun u hu => Lib.hid (hown.tabB_set (f' := fun i => if i < k + 1 then Z / 128 ^ i % 128 + 128 else Z / 128 ^ i % 128) k (Z / 128 ^ k % 128 + 128) u (by omega) (by omega) hu (fun i hi => by
                  by_cases h1 : i = k
                  · subst h1; simp
                  · by_cases h2 : i < k
                    · simp [h1, h2, Nat.lt_succ_of_lt h2]
                    · simp [h1, h2, show ¬ i < k + 1 from by omega]))
                have hlt := Nat.mod_lt (Z / 128 ^ k) (show 0 < 128 by omega)
                generalize Z / 128 ^ k % 128 = y at hc hset hlt
                clear hown hown2
                go_wp2
                go_roundw
                case rel => exact ⟨k + 1, by omega, by go_num, (hset _ (by first | rfl | (congr 1; omega))).out, (by (repeat' (first | (with_reducible exact Below.refl _ _) | (with_reducible assumption) | (with_reducible refine Below.drew ?_) | (with_reducible refine below_drewN ?_ _) | (with_reducible refine Below.alloc ?_ ?_ _) | (with_reducible refine Below.setCell ?_ ?_ _) | omega | (simp; done) | (simp; omega))))⟩
                case measure => simp [intOf]; omega
              · have hD : tabB j (fun i => if i < k then Z / 128 ^ i % 128 + 128 else Z / 128 ^ i % 128) = D := by
                  rw [htab.out]
                  exact tabB_congr (fun i hi => by
                    have : (i < k) = (i + 1 < j) := by simp; omega
                    simp [this])
                rw [hD] at hown
                clear hD hown2
                go_wp2
                go_ret
                exact ⟨_, c, rfl, hown.rebase hb1s, below_then' hb1 hb hb1s⟩
end Go.Proofs.Ytalmdccgpigppaa
namespace Go.Proofs.Ytalmdccgpigppaa
open Go.RowKit

def sizeR (ts : List Int) : Nat := if rightB ts then sizeK ts ts.length else 0
end Go.Proofs.Ytalmdccgpigppaa
