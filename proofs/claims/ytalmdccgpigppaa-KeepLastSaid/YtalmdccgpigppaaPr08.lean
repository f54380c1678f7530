/- Parts: StateB, RefNumA. -/
import Derived.Test.YtalmdccgpigppaaPr07
import Derived.Test.YtalmdccgpigppaaPr02
namespace Go.Proofs.Ytalmdccgpigppaa
open Go.RowKit

end Go.Proofs.Ytalmdccgpigppaa
namespace Go.Proofs.Ytalmdccgpigppaa
open Go.RowKit

theorem bit_un (n : Int) (k : Nat) (hk : k < 64) : ((bit (un n) k : Nat) : Int) = n / 2 ^ k % 2 := by
  unfold bit un
  have h1 : ((n % 18446744073709551616).toNat : Int) = n % 18446744073709551616 := Int.toNat_of_nonneg (by omega)
  rw [Int.natCast_emod, Int.natCast_ediv, h1]
  have h2 : (18446744073709551616 : Int) = 2 ^ k * 2 ^ (64 - k) := by
    rw [← Int.pow_add, show k + (64 - k) = 64 from by omega]; rfl
  have h3 : (2 : Int) ^ (64 - k) = 2 * 2 ^ (63 - k) := by
    rw [show 64 - k = (63 - k) + 1 from by omega, Int.pow_succ, Int.mul_comm]
  have h4 : n % 18446744073709551616 = n - 18446744073709551616 * (n / 18446744073709551616) := by omega
  have hp : (2 : Int) ^ k ≠ 0 := by
    have : (0 : Int) < 2 ^ k := Int.pow_pos (by omega)
    omega
  generalize hq : n / 18446744073709551616 = q at *
  rw [h4, h2, h3]
  have e : n - 2 ^ k * (2 * 2 ^ (63 - k)) * q = n + 2 ^ k * (-(2 * (2 ^ (63 - k) * q))) := by
    rw [Int.mul_neg, ← Int.mul_assoc, ← Int.mul_assoc, ← Int.mul_assoc]; omega
  rw [e]
  have e2 : (((2 ^ k : Nat) : Int)) = 2 ^ k := by simp
  rw [e2, Int.add_mul_ediv_left _ _ hp]
  have : ((2 : Nat) : Int) = 2 := rfl
  rw [this]
  generalize 2 ^ (63 - k) * q = z
  omega

theorem tm2 (x : Int) (h : x < 0) : x.tmod 2 = -((-x) % 2) := by
  have e := Int.neg_tmod (-x) 2
  rw [Int.neg_neg, show (-x).tmod 2 = (-x) % 2 from Int.tmod_eq_emod_of_nonneg (by omega)] at e
  exact e
theorem td2 (x : Int) (h : x < 0) : x.tdiv 2 = -((-x) / 2) := by
  have e := Int.neg_tdiv (-x) 2
  rw [Int.neg_neg, show (-x).tdiv 2 = (-x) / 2 from Int.tdiv_eq_ediv_of_nonneg (by omega)] at e
  exact e
set_option maxRecDepth 100000 in
theorem bit_any (n : Int) (k : Nat) (w : World) (h0 : -9223372036854775808 ≤ n) (h1 : n ≤ 9223372036854775807) (hk : k < 64) :
    Calls Try.prog 135 #[.int .i64 n, .int .i64 k] w fun e w' => e = .returned (.int .i64 (bit (un n) k : Nat)) ∧ w = w' := by
  have hbit := Lib.hid (bit_un n k hk)
  generalize bit (un n) k = z at *
  have Hn := Lib.hid (rfl : n = n)
  go_enter Try.func135, Try.ntmps135
  go_wp2
  go_loop [0, 5] (fun xx ii => ∃ j x, j ≤ k ∧ ii = .int .i64 (j : Nat) ∧ xx = .int .i64 (x : Int) ∧ Hid (x = n / 2 ^ j) ∧ -9223372036854775808 ≤ x ∧ x ≤ 9223372036854775807) (fun _ ii => k - (intOf ii).toNat)
  case atStart => exact ⟨0, n, Nat.zero_le _, rfl, rfl, by show n = n / 2 ^ 0; simp, h0, h1⟩
  case round =>
    obtain ⟨j, x, hj, rfl, rfl, hx, hx0, hx1⟩ := hrel
    by_cases hlt : j < k
    · have hx2 : Hid (x / 2 = n / 2 ^ (j + 1)) := by
        show _ = _
        rw [hx.out, Int.pow_succ, Int.ediv_ediv_of_nonneg (by have : (0 : Int) < 2 ^ j := Int.pow_pos (by omega); omega)]
      by_cases hpos : 0 ≤ x
      · have hn : ¬ x < 0 := by omega
        have b1 : -9223372036854775808 ≤ x / 2 ∧ x / 2 ≤ 9223372036854775807 := by omega
        go_wp2
        go_round
        case rel => exact ⟨j + 1, x / 2, by omega, by go_num, rfl, hx2, b1.1, b1.2⟩
        case measure => simp [intOf]; omega
      · have hn : x < 0 := by omega
        by_cases hodd : x % 2 = 1
        · have e1 : (x.tmod 2 != 0) = true := by rw [bne_iff_ne, tm2 x hn]; omega
          have hx0' : -9223372036854775807 ≤ x := by omega
          have e2 : (x - 1).tdiv 2 = x / 2 := by rw [td2 _ (by omega)]; omega
          have b1 : -9223372036854775808 ≤ x / 2 ∧ x / 2 ≤ 9223372036854775807 := by omega
          clear hodd
          go_wp2
          go_round
          case rel => exact ⟨j + 1, x / 2, by omega, by go_num, rfl, hx2, b1.1, b1.2⟩
          case measure => simp [intOf]; omega
        · have e1 : (x.tmod 2 != 0) = false := by rw [bne_eq_false_iff_eq, tm2 x hn]; omega
          have e2 : x.tdiv 2 = x / 2 := by rw [td2 _ (by omega)]; omega
          have b1 : -9223372036854775808 ≤ x / 2 ∧ x / 2 ≤ 9223372036854775807 := by omega
          clear hodd
          go_wp2
          go_round
          case rel => exact ⟨j + 1, x / 2, by omega, by go_num, rfl, hx2, b1.1, b1.2⟩
          case measure => simp [intOf]; omega
    · have hjk : j = k := by omega
      subst hjk
      have hfin : Hid ((z : Int) = x % 2) := by show _ = _; rw [hbit.out, hx.out]
      have hz : x.tmod 2 = 0 ∨ (x.tmod 2 == 0) = false := by
        by_cases h : x.tmod 2 = 0
        · exact .inl h
        · exact .inr (by rw [beq_eq_false_iff_ne]; exact h)
      have hp : x % 2 = 0 ↔ x.tmod 2 = 0 := by
        by_cases hpos : 0 ≤ x
        · rw [Int.tmod_eq_emod_of_nonneg hpos]
        · rw [tm2 x (by omega)]; omega
      by_cases h2 : x % 2 = 0
      · have e0 : (x.tmod 2 == 0) = true := by rw [beq_iff_eq]; exact hp.1 h2
        have e0' : (x % 2 == 0) = true := by rw [beq_iff_eq]; exact h2
        have hf : Hid ((z : Int) = 0) := by show _ = _; rw [hfin.out]; exact h2
        clear hp hz h2 hfin
        go_wp2
        go_ret
        exact ⟨ret_int hf.out.symm, rfl⟩
      · have e0 : (x.tmod 2 == 0) = false := by rw [beq_eq_false_iff_ne]; intro h; exact h2 (hp.2 h)
        have e0' : (x % 2 == 0) = false := by rw [beq_eq_false_iff_ne]; exact h2
        have hf : Hid ((z : Int) = 1) := by show _ = _; rw [hfin.out]; omega
        clear hp hz h2 hfin
        go_wp2
        go_ret
        exact ⟨ret_int hf.out.symm, rfl⟩
end Go.Proofs.Ytalmdccgpigppaa
namespace Go.Proofs.Ytalmdccgpigppaa
open Go.RowKit

theorem allbits_any (n : Int) (w : World) (h0 : -9223372036854775808 ≤ n) (h1 : n ≤ 9223372036854775807) :
    Calls Try.prog 117 #[.int .i64 n] w fun e w' => ∃ A c, e = .returned (.slice A 64 c) ∧ Ow iv w' w.heap.size 3 A 64 c (tab 64 (bit (un n))) ∧ Below w.heap.size w w' := by
  have hbit := fun k w => bit_any n k w h0 h1
  generalize un n = U at *
  go_enter Try.func117, Try.ntmps117
  go_wp2
  go_loopw [3, 4] (fun v i wr => ∃ k A c, k ≤ 64 ∧ i = .int .i64 (k : Nat) ∧ v = .slice A k c ∧ Ow iv wr w.heap.size 3 A k c (tab k (bit U)) ∧ Below w.heap.size w wr) (fun _ i _ => 64 - (intOf i).toNat)
  case atStart => exact ⟨0, none, 0, by omega, rfl, rfl, Ow.nil _ _ _ _, Below.refl _ _⟩
  case round =>
    obtain ⟨k, A, c, hk, rfl, rfl, hown, hb⟩ := hrel
    have hbs := hb.size
    by_cases hk64 : k < 64
    · go_wp2_with (first
        | (go_at_call 135; (with_reducible refine (hbit k _ hk64).mono ?_); rintro e w' ⟨rfl, rfl⟩)
        | (at_builtin; refine wpList_app rfl rfl elemInt iv_one (s := .tmp 9) (N := k + 1) (L := tab (k + 1) (bit U)) rfl (hown.below (b := wr.heap.size) (by (repeat' (first | (with_reducible exact Below.refl _ _) | (with_reducible assumption) | (with_reducible refine Below.drew ?_) | (with_reducible refine below_drewN ?_ _) | (with_reducible refine Below.alloc ?_ ?_ _) | (with_reducible refine Below.setCell ?_ ?_ _) | omega | (simp; done) | (simp; omega)))) (by first | omega | (simp; done) | (simp; omega))) rfl (k := [((bit U k : Nat) : Int)]) (Rd.of_block (l := [((bit U k : Nat) : Int)]) (heap_top _ _ (by simp)) rfl) rfl (tab_succ k (bit U)) (by unfold maxLen; omega) (by omega) (by first | omega | (simp; done) | (simp; omega)) ?_; intro A5 c5 w5 hown5 hg5 hat5 hb5))
      replace hb5 := below_then' (a := w) (B := w.heap.size) (by (repeat' (first | (with_reducible exact Below.refl _ _) | (with_reducible assumption) | (with_reducible refine Below.drew ?_) | (with_reducible refine below_drewN ?_ _) | (with_reducible refine Below.alloc ?_ ?_ _) | (with_reducible refine Below.setCell ?_ ?_ _) | omega | (simp; done) | (simp; omega)))) hb5 (by first | omega | (simp; done) | (simp; omega)); have hb5s := hb5.size
      go_roundw
      case rel => exact ⟨k + 1, A5, c5, by omega, by go_num, rfl, hown5, hb5⟩
      case measure => simp [intOf]; omega
    · have hk9 : k = 64 := by omega
      subst hk9
      go_wp2
      go_ret
      exact ⟨A, c, rfl, hown, hb⟩

theorem RI.tab_cell {w : World} {b o n : Nat} {f : Nat → Nat} (h : RI w (some ⟨b, o, none⟩) n (tab n f)) {k : Nat} (hk : k < n) : w.cell? ⟨b, o + k, none⟩ = some (.int .i64 (f k : Nat)) := by
  obtain ⟨b', o', hA, _, hc⟩ := h.at_ hk
  injection hA with hA
  injection hA with h1 h2 _
  subst h1 h2
  rw [hc, tab_at f hk]
theorem RI.addr {w : World} {A : Option Addr} {n : Nat} {l : List Int} (h : RI w A n l) (hn : 0 < n) : ∃ b o, A = some ⟨b, o, none⟩ ∧ b < w.heap.size := by
  obtain ⟨b, o, hA, hb, _⟩ := h.at_ hn
  exact ⟨b, o, hA, hb⟩

theorem number_any (A : Option Addr) (c U : Nat) (w : World) (hU : U < 18446744073709551616) (hl : RI w A 64 (tab 64 (bit U))) :
    Calls Try.prog 119 #[.slice A 64 c] w fun e w' => e = .returned (.int .i64 (sg U)) ∧ w = w' := by
  obtain ⟨b, o, rfl, hb⟩ := hl.addr (by omega)
  have h63 := hl.tab_cell (k := 63) (by omega)
  have hcell : ∀ k, k < 64 → Hid (w.cell? ⟨b, o + k, none⟩ = some (.int .i64 (bit U k : Nat))) := fun k hk => hl.tab_cell hk
  have hz : Hid (sg U = if bit U 63 = 1 then ((U % 9223372036854775808 : Nat) : Int) - 4611686018427387904 - 4611686018427387904 else ((U % 9223372036854775808 : Nat) : Int)) := by
    show _ = _
    unfold sg bit
    have : (2 : Nat) ^ 63 = 9223372036854775808 := rfl
    rw [this]
    split <;> split <;> omega
  generalize sg U = z at *
  go_enter Try.func119, Try.ntmps119
  go_wp2
  go_loop [3, 4] (fun vv kk => ∃ m v, m ≤ 63 ∧ kk = .int .i64 (62 - (m : Nat)) ∧ vv = .int .i64 (v : Nat) ∧ Hid (v = U % 9223372036854775808 / 2 ^ (63 - m)) ∧ v ≤ 9223372036854775807) (fun _ kk => (intOf kk + 1).toNat)
  case atStart => exact ⟨0, 0, by omega, rfl, rfl, by show 0 = _; omega, by omega⟩
  case round =>
    obtain ⟨m, v, hm, rfl, rfl, hv, hv2⟩ := hrel
    by_cases hm63 : m < 63
    · have hc := (hcell (62 - m) (by omega)).out
      have hv3 : Hid (2 * v + bit U (62 - m) = U % 9223372036854775808 / 2 ^ (63 - (m + 1))) := by
        show _ = _
        have e1 : bit U (62 - m) = U % 9223372036854775808 / 2 ^ (62 - m) % 2 := by
          have e : (9223372036854775808 : Nat) = 2 ^ (62 - m) * 2 ^ (m + 1) := by rw [← Nat.pow_add, show 62 - m + (m + 1) = 63 from by omega]
          unfold bit
          rw [e, Nat.mod_mul_right_div_self, Nat.pow_succ, Nat.mod_mul_left_mod]
        rw [hv.out, show 63 - m = (62 - m) + 1 from by omega, show 63 - (m + 1) = 62 - m from by omega, Nat.pow_succ, ← Nat.div_div_eq_div_mul, e1]
        omega
      have hv4 : 2 * v + bit U (62 - m) ≤ 9223372036854775807 := by
        rw [hv3.out]
        have := Nat.div_le_self (U % 9223372036854775808) (2 ^ (63 - (m + 1)))
        omega
      generalize bit U (62 - m) = y at *
      clear hcell h63
      go_wp2
      go_round
      case rel => exact ⟨m + 1, 2 * v + y, by omega, by go_num, by go_num, hv3, hv4⟩
      case measure => simp [intOf]; omega
    · have hm9 : m = 63 := by omega
      subst hm9
      have hv3 : Hid (v = U % 9223372036854775808) := by show _ = _; rw [hv.out]; simp
      have hbl := bit_le U 63
      clear hcell hv
      generalize bit U 63 = t at *
      by_cases ht : t = 1
      · subst ht
        have hz2 : Hid (z = (v : Int) - 4611686018427387904 - 4611686018427387904) := by show _ = _; rw [hz.out, hv3.out]; rfl
        go_wp2
        go_ret
        exact ⟨ret_int hz2.out.symm, rfl⟩
      · have ht0 : (((t : Nat) : Int) == 1) = false := by rw [beq_eq_false_iff_ne]; omega
        have hz2 : Hid (z = (v : Int)) := by show _ = _; rw [hz.out, hv3.out, if_neg ht]
        clear ht hz
        go_wp2
        go_ret
        exact ⟨ret_int hz2.out.symm, rfl⟩

end Go.Proofs.Ytalmdccgpigppaa
namespace Go.Proofs.Ytalmdccgpigppaa
open Go.RowKit

end Go.Proofs.Ytalmdccgpigppaa
