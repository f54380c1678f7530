/- Parts: RefNumA. -/
import Derived.Test.YtpmkpckldnnigaaGreatPr02
set_option linter.unusedVariables false
set_option linter.unusedSimpArgs false
set_option maxRecDepth 100000
set_option maxHeartbeats 40000000
namespace Go.Proofs.YtpmkpckldnnigaaGreat
open Go.RowKit
theorem bit_un (n : Int) (k : Nat) (hk : k < 64) : ((bit (un n) k : Nat) : Int) = n / 2 ^ k % 2 := by
  unfold bit un; have h1 : ((n % 18446744073709551616).toNat : Int) = n % 18446744073709551616 := Int.toNat_of_nonneg omg; rw [Int.natCast_emod, Int.natCast_ediv, h1]; have h2 : (18446744073709551616 : Int) = 2 ^ k * 2 ^ (64 - k) := by
    rw [← Int.pow_add, show k + (64 - k) = 64 from by omega]; rfl
  have h3 : (2 : Int) ^ (64 - k) = 2 * 2 ^ (63 - k) := by
    rw [show 64 - k = (63 - k) + 1 from by omega, Int.pow_succ, Int.mul_comm]
  have h4 : n % 18446744073709551616 = n - 18446744073709551616 * (n / 18446744073709551616) := omg; have hp : (2 : Int) ^ k ≠ 0 := by
    have : (0 : Int) < 2 ^ k := Int.pow_pos omg; omega
  generalize hq : n / 18446744073709551616 = q at *; rw [h4, h2, h3]; have e : n - 2 ^ k * (2 * 2 ^ (63 - k)) * q = n + 2 ^ k * (-(2 * (2 ^ (63 - k) * q))) := by
    rw [Int.mul_neg, ← Int.mul_assoc, ← Int.mul_assoc, ← Int.mul_assoc]; omega
  rw [e]; have e2 : (((2 ^ k : Nat) : Int)) = 2 ^ k := by simp
  rw [e2, Int.add_mul_ediv_left _ _ hp]; have : ((2 : Nat) : Int) = 2 := rfl; rw [this]; generalize 2 ^ (63 - k) * q = z; omega
theorem tm2 (x : Int) (h : x < 0) : x.tmod 2 = -((-x) % 2) := by
  have e := Int.neg_tmod (-x) 2; rw [Int.neg_neg, show (-x).tmod 2 = (-x) % 2 from Int.tmod_eq_emod_of_nonneg omg] at e; exact e
theorem td2 (x : Int) (h : x < 0) : x.tdiv 2 = -((-x) / 2) := by
  have e := Int.neg_tdiv (-x) 2; rw [Int.neg_neg, show (-x).tdiv 2 = (-x) / 2 from Int.tdiv_eq_ediv_of_nonneg omg] at e; exact e
theorem bit_any (n : Int) (k : Nat) (w : World) (h0 : -9223372036854775808 ≤ n) (h1 : n ≤ 9223372036854775807) (hk : k < 64) :
    Calls Tryz.prog 213 #[.int .i64 n, .int .i64 k] w fun e w' => e = .returned (.int .i64 (bit (un n) k : Nat)) ∧ w = w' := by
  have hbit := hdd (bit_un n k hk); generalize bit (un n) k = z at *; have Hn := hdd (rfl : n = n); go_enter Tryz.func213, Tryz.ntmps213; go_wp2; go_loop [0, 5] (fun xx ii => ∃ j x, j ≤ k ∧ ii = .int .i64 (j : Nat) ∧ xx = .int .i64 (x : Int) ∧ Hid (x = n / 2 ^ j) ∧ -9223372036854775808 ≤ x ∧ x ≤ 9223372036854775807) (fun _ ii => k - (intOf ii).toNat)
  case atStart => exact ⟨0, n, Nat.zero_le _, rfl, rfl, by show n = n / 2 ^ 0; simp, h0, h1⟩
  case round =>
    obtain ⟨j, x, hj, rfl, rfl, hx, hx0, hx1⟩ := hrel
    by_cases hlt : j < k
    · have hx2 : Hid (x / 2 = n / 2 ^ (j + 1)) := by
        show _ = _
        rw [hx.out, Int.pow_succ, Int.ediv_ediv_of_nonneg (by have : (0 : Int) < 2 ^ j := Int.pow_pos omg; omega)]
      by_cases hpos : 0 ≤ x
      · have hn : ¬ x < 0 := omg; have b1 : -9223372036854775808 ≤ x / 2 ∧ x / 2 ≤ 9223372036854775807 := omg; go_wp2; go_round
        case rel => exact ⟨j + 1, x / 2, omg, by go_num, rfl, hx2, b1.1, b1.2⟩
        case measure => simp [intOf]; omega
      · have hn : x < 0 := omg
        by_cases hodd : x % 2 = 1
        · have e1 : (x.tmod 2 != 0) = true := by rw [bne_iff_ne, tm2 x hn]; omega
          have hx0' : -9223372036854775807 ≤ x := omg; have e2 : (x - 1).tdiv 2 = x / 2 := by rw [td2 _ omg]; omega
          have b1 : -9223372036854775808 ≤ x / 2 ∧ x / 2 ≤ 9223372036854775807 := omg; clear hodd; go_wp2; go_round
          case rel => exact ⟨j + 1, x / 2, omg, by go_num, rfl, hx2, b1.1, b1.2⟩
          case measure => simp [intOf]; omega
        · have e1 : (x.tmod 2 != 0) = false := by rw [bne_eq_false_iff_eq, tm2 x hn]; omega
          have e2 : x.tdiv 2 = x / 2 := by rw [td2 _ omg]; omega
          have b1 : -9223372036854775808 ≤ x / 2 ∧ x / 2 ≤ 9223372036854775807 := omg; clear hodd; go_wp2; go_round
          case rel => exact ⟨j + 1, x / 2, omg, by go_num, rfl, hx2, b1.1, b1.2⟩
          case measure => simp [intOf]; omega
    · have hjk : j = k := omg; subst hjk; have hfin : Hid ((z : Int) = x % 2) := by show _ = _; rw [hbit.out, hx.out]
      have hz : x.tmod 2 = 0 ∨ (x.tmod 2 == 0) = false := by
        by_cases h : x.tmod 2 = 0
        · exact .inl h
        · exact .inr (by rw [beq_eq_false_iff_ne]; exact h)
      have hp : x % 2 = 0 ↔ x.tmod 2 = 0 := by
        by_cases hpos : 0 ≤ x
        · rw [Int.tmod_eq_emod_of_nonneg hpos]
        · rw [tm2 x omg]; omega
      by_cases h2 : x % 2 = 0
      · have e0 : (x.tmod 2 == 0) = true := by rw [beq_iff_eq]; exact hp.1 h2
        have e0' : (x % 2 == 0) = true := by rw [beq_iff_eq]; exact h2
        have hf : Hid ((z : Int) = 0) := by show _ = _; rw [hfin.out]; exact h2
        clear hp hz h2 hfin; go_wp2; go_ret; exact ⟨qw6 hf.out.symm, rfl⟩
      · have e0 : (x.tmod 2 == 0) = false := by rw [beq_eq_false_iff_ne]; intro h; exact h2 (hp.2 h)
        have e0' : (x % 2 == 0) = false := by rw [beq_eq_false_iff_ne]; exact h2
        have hf : Hid ((z : Int) = 1) := by show _ = _; rw [hfin.out]; omega
        clear hp hz h2 hfin; go_wp2; go_ret; exact ⟨qw6 hf.out.symm, rfl⟩
theorem qx1 (n : Int) (w : World) (h0 : -9223372036854775808 ≤ n) (h1 : n ≤ 9223372036854775807) :
    Calls Tryz.prog 145 #[.int .i64 n] w fun e w' => ∃ A c, e = .returned (.slice A 64 c) ∧ Ow iv w' w.heap.size 3 A 64 c (tab 64 (bit (un n))) ∧ Below w.heap.size w w' := by
  have hbit := fun k w => bit_any n k w h0 h1
  generalize un n = U at *; go_enter Tryz.func145, Tryz.ntmps145; go_wp2; go_loopw [3, 4] (fun v i wr => ∃ k A c, k ≤ 64 ∧ i = .int .i64 (k : Nat) ∧ v = .slice A k c ∧ Ow iv wr w.heap.size 3 A k c (tab k (bit U)) ∧ Below w.heap.size w wr) (fun _ i _ => 64 - (intOf i).toNat)
  case atStart => exact ⟨0, none, 0, omg, rfl, rfl, Ow.nil _ _ _ _, Below.refl _ _⟩
  case round =>
    obtain ⟨k, A, c, hk, rfl, rfl, hown, hb⟩ := hrel; have hbs := hb.size
    by_cases hk64 : k < 64
    · go_wp2_with (first | (go_at_call 213; (with_reducible refine (hbit k _ hk64).mono ?_); rintro e w' ⟨rfl, rfl⟩) | (at_builtin; refine qa6 rfl rfl qk5 qr8 (s := .tmp 9) (N := k + 1) (L := tab (k + 1) (bit U)) rfl (hown.below (b := wr.heap.size) gwn szz) rfl (k := [((bit U k : Nat) : Int)]) (Rd.of_block (l := [((bit U k : Nat) : Int)]) (qb7 _ _ smp) rfl) rfl (qu8 k (bit U)) uml omg szz ?_; intro A5 c5 w5 hown5 hg5 hat5 hb5)); replace hb5 := qa0 (a := w) (B := w.heap.size) gwn hb5 szz; have hb5s := hb5.size; go_roundw
      case rel => exact ⟨k + 1, A5, c5, omg, by go_num, rfl, hown5, hb5⟩
      case measure => simp [intOf]; omega
    · have hk9 : k = 64 := omg; subst hk9; go_wp2; go_ret; exact ⟨A, c, rfl, hown, hb⟩
theorem RI.tab_cell {w : World} {b o n : Nat} {f : Nat → Nat} (h : RI w (some ⟨b, o, none⟩) n (tab n f)) {k : Nat} (hk : k < n) : w.cell? ⟨b, o + k, none⟩ = some (.int .i64 (f k : Nat)) := by
  obtain ⟨b', o', hA, _, hc⟩ := h.at_ hk; injection hA with hA; injection hA with h1 h2 _; subst h1 h2; rw [hc, tab_at f hk]
theorem RI.addr {w : World} {A : Option Addr} {n : Nat} {l : List Int} (h : RI w A n l) (hn : 0 < n) : ∃ b o, A = some ⟨b, o, none⟩ ∧ b < w.heap.size := by
  obtain ⟨b, o, hA, hb, _⟩ := h.at_ hn; exact ⟨b, o, hA, hb⟩
theorem vh9 (A : Option Addr) (c U : Nat) (w : World) (hU : U < 18446744073709551616) (hl : RI w A 64 (tab 64 (bit U))) :
    Calls Tryz.prog 147 #[.slice A 64 c] w fun e w' => e = .returned (.int .i64 (sg U)) ∧ w = w' := by
  obtain ⟨b, o, rfl, hb⟩ := hl.addr omg; have h63 := hl.tab_cell (k := 63) omg; have hcell : ∀ k, k < 64 → Hid (w.cell? ⟨b, o + k, none⟩ = some (.int .i64 (bit U k : Nat))) := fun k hk => hl.tab_cell hk
  have hz : Hid (sg U = if bit U 63 = 1 then ((U % 9223372036854775808 : Nat) : Int) - 4611686018427387904 - 4611686018427387904 else ((U % 9223372036854775808 : Nat) : Int)) := by
    show _ = _
    unfold sg bit; have : (2 : Nat) ^ 63 = 9223372036854775808 := rfl; rw [this]
    split <;> split <;> omega
  generalize sg U = z at *; go_enter Tryz.func147, Tryz.ntmps147; go_wp2; go_loop [3, 4] (fun vv kk => ∃ m v, m ≤ 63 ∧ kk = .int .i64 (62 - (m : Nat)) ∧ vv = .int .i64 (v : Nat) ∧ Hid (v = U % 9223372036854775808 / 2 ^ (63 - m)) ∧ v ≤ 9223372036854775807) (fun _ kk => (intOf kk + 1).toNat)
  case atStart => exact ⟨0, 0, omg, rfl, rfl, by show 0 = _; omega, omg⟩
  case round =>
    obtain ⟨m, v, hm, rfl, rfl, hv, hv2⟩ := hrel
    by_cases hm63 : m < 63
    · have hc := (hcell (62 - m) omg).out; have hv3 : Hid (2 * v + bit U (62 - m) = U % 9223372036854775808 / 2 ^ (63 - (m + 1))) := by
        show _ = _
        have e1 : bit U (62 - m) = U % 9223372036854775808 / 2 ^ (62 - m) % 2 := by
          have e : (9223372036854775808 : Nat) = 2 ^ (62 - m) * 2 ^ (m + 1) := by rw [← Nat.pow_add, show 62 - m + (m + 1) = 63 from by omega]
          unfold bit; rw [e, Nat.mod_mul_right_div_self, Nat.pow_succ, Nat.mod_mul_left_mod]
        rw [hv.out, show 63 - m = (62 - m) + 1 from by omega, show 63 - (m + 1) = 62 - m from by omega, Nat.pow_succ, ← Nat.div_div_eq_div_mul, e1]; omega
      have hv4 : 2 * v + bit U (62 - m) ≤ 9223372036854775807 := by
        rw [hv3.out]; have := Nat.div_le_self (U % 9223372036854775808) (2 ^ (63 - (m + 1))); omega
      generalize bit U (62 - m) = y at *; clear hcell h63; go_wp2; go_round
      case rel => exact ⟨m + 1, 2 * v + y, omg, by go_num, by go_num, hv3, hv4⟩
      case measure => simp [intOf]; omega
    · have hm9 : m = 63 := omg; subst hm9; have hv3 : Hid (v = U % 9223372036854775808) := by show _ = _; rw [hv.out]; simp
      have hbl := qp7 U 63; clear hcell hv; generalize bit U 63 = t at *
      by_cases ht : t = 1
      · subst ht; have hz2 : Hid (z = (v : Int) - 4611686018427387904 - 4611686018427387904) := by show _ = _; rw [hz.out, hv3.out]; rfl
        go_wp2; go_ret; exact ⟨qw6 hz2.out.symm, rfl⟩
      · have ht0 : (((t : Nat) : Int) == 1) = false := by rw [beq_eq_false_iff_ne]; omega
        have hz2 : Hid (z = (v : Int)) := by show _ = _; rw [hz.out, hv3.out, if_neg ht]
        clear ht hz; go_wp2; go_ret; exact ⟨qw6 hz2.out.symm, rfl⟩
theorem qv1 (n : Int) (w : World) (h0 : -9223372036854775808 ≤ n) (h1 : n ≤ 9223372036854775807) :
    Calls Tryz.prog 157 #[.int .i64 n] w fun e w' => ∃ A c, e = .returned (.slice A 8 c) ∧ OB w' w.heap.size 5 A 8 c (putL (un n)) ∧ Below w.heap.size w w' := by
  have hbits := fun w => qx1 n w h0 h1
  have hU := un_lt n; generalize un n = U at *; unfold putL; go_enter Tryz.func157, Tryz.ntmps157; go_wp2_with (go_at_call 145; (with_reducible refine (hbits _).mono ?_); rintro e w1 ⟨B, d, rfl, hownb, hb1⟩); have hb1s := hb1.size; obtain ⟨gb, rfl, _, hgb⟩ := hownb.addr omg; have hcell : ∀ k, k < 64 → Hid (w1.cell? ⟨gb, k, none⟩ = some (.int .i64 (bit U k : Nat))) := fun k hk => hownb.tab_cell hk
  clear hbits hownb; go_loopw [4, 5] (fun v i wr => ∃ k A c, k ≤ 8 ∧ i = .int .i64 (k : Nat) ∧ v = .slice A k c ∧ OB wr w1.heap.size 5 A k c (tabB k (fun i => U / 256 ^ i % 256)) ∧ Below w1.heap.size w1 wr) (fun _ i _ => 8 - (intOf i).toNat)
  case atStart => exact ⟨0, none, 0, omg, rfl, rfl, Ow.nil _ _ _ _, Below.refl _ _⟩
  case round =>
    obtain ⟨k, A, c, hk, rfl, rfl, hown, hb⟩ := hrel; have hbs := hb.size
    by_cases hk8 : k < 8
    · go_wp2; obtain ⟨wo, rfl⟩ : ∃ wo : World, wo = wr := ⟨_, rfl⟩; go_loop [6, 7] (fun cc jj => ∃ m x, m ≤ 8 ∧ jj = .int .i64 (7 - (m : Nat)) ∧ cc = .int .i64 (x : Nat) ∧ Hid (x = U / 256 ^ k % 256 / 2 ^ (8 - m)) ∧ x ≤ 255) (fun _ jj => (intOf jj + 1).toNat)
      case atStart => exact ⟨0, 0, omg, rfl, rfl, by show 0 = _; omega, omg⟩
      case round =>
        obtain ⟨m, x, hm, rfl, rfl, hx, hx2⟩ := hrel
        by_cases hm8 : m < 8
        · have hc := (hb.cell (p := ⟨gb, 8 * k + (7 - m), none⟩) hgb).trans (hcell (8 * k + (7 - m)) omg).out; have hx3 : Hid (2 * x + bit U (8 * k + (7 - m)) = U / 256 ^ k % 256 / 2 ^ (8 - (m + 1))) := by
            show _ = _
            have e1 : bit U (8 * k + (7 - m)) = U / 256 ^ k % 256 / 2 ^ (7 - m) % 2 := by
              have e : (256 : Nat) = 2 ^ (7 - m) * 2 ^ (m + 1) := by rw [← Nat.pow_add, show 7 - m + (m + 1) = 8 from by omega]
              have e' : (256 : Nat) ^ k = 2 ^ (8 * k) := by rw [Nat.pow_mul]
              unfold bit; rw [Nat.pow_add, ← Nat.div_div_eq_div_mul, ← e']; generalize U / 256 ^ k = V; rw [e, Nat.mod_mul_right_div_self, Nat.pow_succ, Nat.mod_mul_left_mod]
            rw [hx.out, show 8 - m = (7 - m) + 1 from by omega, show 8 - (m + 1) = 7 - m from by omega, Nat.pow_succ, ← Nat.div_div_eq_div_mul, e1]; omega
          have hx4 : 2 * x + bit U (8 * k + (7 - m)) ≤ 255 := by
            rw [hx3.out]; have := Nat.div_le_self (U / 256 ^ k % 256) (2 ^ (8 - (m + 1))); omega
          generalize bit U (8 * k + (7 - m)) = y at *; clear hcell; go_wp2; go_round
          case rel => exact ⟨m + 1, 2 * x + y, omg, by go_num, by go_num, hx3, hx4⟩
          case measure => simp [intOf]; omega
        · have hm9 : m = 8 := omg; subst hm9; have hx3 : Hid (tabB k (fun i => U / 256 ^ i % 256) ++ [UInt8.ofNat x] = tabB (k + 1) (fun i => U / 256 ^ i % 256)) := by
            show _ = _
            rw [← vc9]; congr 3; rw [hx.out]; simp
          have hbv := hdd (qi2 (v := x) omg); clear hcell hx; go_wp2_with (at_builtin; refine qa6 rfl rfl qb4 qc2 (s := .tmp 28) (N := k + 1) (L := tabB (k + 1) (fun i => U / 256 ^ i % 256)) rfl (hown.below (b := wo.heap.size) gwn szz) rfl (k := [UInt8.ofNat x]) (Rd.of_block (l := [UInt8.ofNat x]) (qb7 _ _ smp) (congrArg (fun x => [x]) hbv.out.symm)) rfl hx3.out uml omg szz ?_; intro A5 c5 w5 hown5 hg5 hat5 hb5); replace hb5 := qa0 (a := w1) (B := w1.heap.size) gwn hb5 szz; have hb5s := hb5.size; go_roundw
          case rel => exact ⟨k + 1, A5, c5, omg, by go_num, rfl, hown5, hb5⟩
          case measure => simp [intOf]; omega
    · have hk9 : k = 8 := omg; subst hk9; go_wp2; go_ret; exact ⟨A, c, rfl, hown.rebase hb1s, qa0 hb1 hb hb1s⟩
theorem getL_at (l : List UInt8) : ∀ k, k < l.length → getL l / 256 ^ k % 256 = qa2 l k := by
  induction l with
  | nil => intro k h; simp at h
  | cons c l ih =>
    intro k h
    cases k with
    | zero => simp only [getL, Nat.pow_zero, Nat.div_one]; have := c.toNat_lt; simp [qa2]
    | succ k =>
      have e := ih k (by simpa using h); have hb : qa2 (c :: l) (k + 1) = qa2 l k := by simp [qa2]
      rw [hb, ← e, Nat.pow_succ, Nat.mul_comm (256 ^ k) 256, ← Nat.div_div_eq_div_mul]; have := c.toNat_lt; simp only [getL]; rw [show (c.toNat + 256 * getL l) / 256 = getL l from by omega]
theorem getL_bit (l : List UInt8) (k m : Nat) (hk : k < l.length) (hm : m < 8) : bit (getL l) (8 * k + m) = qa2 l k / 2 ^ m % 2 := by
  rw [← getL_at l k hk]; unfold bit; rw [Nat.pow_add, ← Nat.div_div_eq_div_mul, Nat.pow_mul]; generalize getL l / (2 ^ 8) ^ k = V; have e : (256 : Nat) = 2 ^ m * 2 ^ (8 - m) := by rw [← Nat.pow_add, show m + (8 - m) = 8 from by omega]
  rw [e, Nat.mod_mul_right_div_self, show 8 - m = (7 - m) + 1 from by omega, Nat.pow_succ, Nat.mod_mul_left_mod]
theorem qv3 (A : Option Addr) (c : Nat) (l : List UInt8) (w : World) (hl : RB w A 8 l) : Calls Tryz.prog 152 #[.slice A 8 c] w fun e w' => e = .returned (.tuple #[.int .i64 (sg (getL l)), .int .i64 0]) ∧ Below w.heap.size w w' := by
  have hlt : getL l < 18446744073709551616 := by have := vk3 l; rw [hl.1] at this; omega
  have hbit := fun k hk m hm => hdd (getL_bit l k m (by rw [hl.1]; exact hk) hm)
  have hnum := fun A c w => vh9 A c (getL l) w hlt
  generalize getL l = U at *; go_enter Tryz.func152, Tryz.ntmps152; go_wp2; go_loopw [4, 5] (fun v i wr => ∃ k A c, k ≤ 8 ∧ i = .int .i64 (k : Nat) ∧ v = .slice A (8 * k) c ∧ Ow iv wr w.heap.size 3 A (8 * k) c (tab (8 * k) (bit U)) ∧ Below w.heap.size w wr) (fun _ i _ => 8 - (intOf i).toNat)
  case atStart => exact ⟨0, none, 0, omg, rfl, rfl, Ow.nil _ _ _ _, Below.refl _ _⟩
  case round =>
    obtain ⟨k, A, c, hk, rfl, rfl, hown, hb⟩ := hrel; have hbs := hb.size
    by_cases hk8 : k < 8
    · obtain ⟨b, o, rfl, hb0, hc⟩ := hl.at_ hk8; have hc := (hb.cell (p := ⟨b, o + k, none⟩) hb0).trans hc; have hbi := hbit k hk8; have hy := qf9 l k; generalize qa2 l k = y at *; clear hbit hnum; go_wp2; obtain ⟨wo, rfl⟩ : ∃ wo : World, wo = wr := ⟨_, rfl⟩; go_loopw [4, 6, 7] (fun v n j wi => ∃ m e A c, m ≤ 8 ∧ j = .int .i64 (m : Nat) ∧ Hid (e = y / 2 ^ m) ∧ e ≤ 255 ∧ n = .int .i64 (e : Nat) ∧ v = .slice A (8 * k + m) c ∧ Ow iv wi w.heap.size 3 A (8 * k + m) c (tab (8 * k + m) (bit U)) ∧ Below w.heap.size w wi) (fun _ _ j _ => 8 - (intOf j).toNat)
      case atStart => exact ⟨0, y, A, c, omg, rfl, by show y = y / 2 ^ 0; omega, omg, rfl, rfl, hown, hb⟩
      case round =>
        obtain ⟨m, e, A, c, hm, rfl, he, he15, rfl, rfl, hown, hb⟩ := hrel; have hbs := hb.size
        by_cases hm4 : m < 8
        · have hL : Hid (tab (8 * k + m) (bit U) ++ [((e : Nat) : Int) % 2] = tab (8 * k + (m + 1)) (bit U)) := by
            show _ = tab (8 * k + m + 1) _
            rw [← qu8, (hbi m hm4).out, ← he.out]; rfl
          have he2 : Hid (e / 2 = y / 2 ^ (m + 1)) := by
            show e / 2 = _
            rw [he.out, Nat.div_div_eq_div_mul, Nat.pow_succ]
          clear hbi hc; go_wp2_with (at_builtin; refine qa6 rfl rfl qk5 qr8 (s := .tmp 27) (N := 8 * k + (m + 1)) (L := tab (8 * k + (m + 1)) (bit U)) rfl (hown.below (b := wr.heap.size) gwn szz) rfl (k := [((e : Nat) : Int) % 2]) (Rd.of_block (l := [((e : Nat) : Int) % 2]) (qb7 _ _ smp) rfl) rfl (hL.out) uml omg szz ?_; intro A5 c5 w5 hown5 hg5 hat5 hb5); replace hb5 := qa0 (a := w) (B := w.heap.size) gwn hb5 szz; have hb5s := hb5.size; exact ⟨⟨_, _, _, ⟨m + 1, omg, by go_num, e / 2, he2, omg, by go_num, A5, c5, rfl, hown5, hb5⟩, rfl, rfl, rfl⟩, by simp [intOf]; omega⟩
        · have hm5 : m = 8 := omg; subst hm5; clear hbi hc; go_wp2; go_roundw
          case rel => exact ⟨k + 1, A, c, omg, by go_num, rfl, hown, hb⟩
          case measure => simp [intOf]; omega
    · have hk9 : k = 8 := omg; subst hk9; clear hbit; go_wp2_with (go_at_call 147; (with_reducible refine (hnum _ _ _ hown.rd.ri).mono ?_); rintro e w' ⟨rfl, rfl⟩); go_ret2; exact ⟨rfl, hb⟩
end Go.Proofs.YtpmkpckldnnigaaGreat
