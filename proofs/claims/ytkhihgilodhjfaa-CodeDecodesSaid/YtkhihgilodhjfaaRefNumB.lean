/- Contracts of the reference of num: all bits, numbers of bits, eight bytes. -/
import Derived.Test.YtkhihgilodhjfaaRefNumA
namespace Go.Proofs.Ytkhihgilodhjfaa
open Go.RowKit

theorem allbits_any (n : Int) (w : World) (h0 : -9223372036854775808 ≤ n) (h1 : n ≤ 9223372036854775807) :
    Calls Try.prog 69 #[.int .i64 n] w fun e w' => ∃ A c, e = .returned (.slice A 64 c) ∧ Ow iv w' w.heap.size 3 A 64 c (tab 64 (bit (un n))) ∧ Below w.heap.size w w' := by
  have hbit := fun k w => bit_any n k w h0 h1
  generalize un n = U at *
  go_enter Try.func69, Try.ntmps69
  go_wp2
  go_loopw [3, 4] (fun v i wr => ∃ k A c, k ≤ 64 ∧ i = .int .i64 (k : Nat) ∧ v = .slice A k c ∧ Ow iv wr w.heap.size 3 A k c (tab k (bit U)) ∧ Below w.heap.size w wr) (fun _ i _ => 64 - (intOf i).toNat)
  case atStart => exact ⟨0, none, 0, by omega, rfl, rfl, Ow.nil _ _ _ _, Below.refl _ _⟩
  case round =>
    obtain ⟨k, A, c, hk, rfl, rfl, hown, hb⟩ := hrel
    have hbs := hb.size
    by_cases hk64 : k < 64
    · go_wp2_with (first
        | (go_at_call 86; (with_reducible refine (hbit k _ hk64).mono ?_); rintro e w' ⟨rfl, rfl⟩)
        | (at_builtin; refine wpList_app rfl rfl elemInt iv_one (s := .tmp 9) (N := k + 1) (L := tab (k + 1) (bit U)) rfl (hown.below (b := wr.heap.size) (by (repeat' (first | (with_reducible exact Below.refl _ _) | (with_reducible assumption) | (with_reducible refine Below.drew ?_) | (with_reducible refine below_drewN ?_ _) | (with_reducible refine Below.alloc ?_ ?_ _) | (with_reducible refine Below.setCell ?_ ?_ _) | omega | (simp; done) | (simp; omega)))) (by first | omega | (simp; done) | (simp; omega))) rfl (k := [((bit U k : Nat) : Int)]) (Rd.of_block (l := [((bit U k : Nat) : Int)]) (heap_top _ _ (by simp)) rfl) rfl (tab_succ k (bit U)) (by unfold maxLen; omega) (by omega) (by first | omega | (simp; done) | (simp; omega)) ?_; intro A5 c5 w5 hown5 hg5 hat5 hb5))
      replace hb5 := below_then' (a := w) (B := w.heap.size) (by (repeat' (first | (with_reducible exact Below.refl _ _) | (with_reducible assumption) | (with_reducible refine Below.drew ?_) | (with_reducible refine below_drewN ?_ _) | (with_reducible refine Below.alloc ?_ ?_ _) | (with_reducible refine Below.setCell ?_ ?_ _) | omega | (simp; done) | (simp; omega)))) hb5 (by first | omega | (simp; done) | (simp; omega)); have hb5s := hb5.size
      go_roundw
      case rel => exact ⟨k + 1, A5, c5, by omega, by go_num, rfl, hown5, hb5⟩
      case measure => simp [intOf]; omega
    · have hk9 : k = 64 := by omega
      subst hk9
      go_wp2
      go_ret
      exact ⟨A, c, rfl, hown, hb⟩

theorem RI.tab_cell {w : World} {b o n : Nat} {f : Nat → Nat} (h : RI w (some ⟨b, o, none⟩) n (tab n f)) {k : Nat} (hk : k < n) : w.cell? ⟨b, o + k, none⟩ = some (.int .i64 (f k : Nat)) := by
  obtain ⟨b', o', hA, _, hc⟩ := h.at_ hk
  injection hA with hA
  injection hA with h1 h2 _
  subst h1 h2
  rw [hc, tab_at f hk]
theorem RI.addr {w : World} {A : Option Addr} {n : Nat} {l : List Int} (h : RI w A n l) (hn : 0 < n) : ∃ b o, A = some ⟨b, o, none⟩ ∧ b < w.heap.size := by
  obtain ⟨b, o, hA, hb, _⟩ := h.at_ hn
  exact ⟨b, o, hA, hb⟩

theorem number_any (A : Option Addr) (c U : Nat) (w : World) (hU : U < 18446744073709551616) (hl : RI w A 64 (tab 64 (bit U))) :
    Calls Try.prog 85 #[.slice A 64 c] w fun e w' => e = .returned (.int .i64 (sg U)) ∧ w = w' := by
  obtain ⟨b, o, rfl, hb⟩ := hl.addr (by omega)
  have h63 := hl.tab_cell (k := 63) (by omega)
  have hcell : ∀ k, k < 64 → Hid (w.cell? ⟨b, o + k, none⟩ = some (.int .i64 (bit U k : Nat))) := fun k hk => hl.tab_cell hk
  have hz : Hid (sg U = if bit U 63 = 1 then ((U % 9223372036854775808 : Nat) : Int) - 4611686018427387904 - 4611686018427387904 else ((U % 9223372036854775808 : Nat) : Int)) := by
    show _ = _
    unfold sg bit
    have : (2 : Nat) ^ 63 = 9223372036854775808 := rfl
    rw [this]
    split <;> split <;> omega
  generalize sg U = z at *
  go_enter Try.func85, Try.ntmps85
  go_wp2
  go_loop [3, 4] (fun vv kk => ∃ m v, m ≤ 63 ∧ kk = .int .i64 (62 - (m : Nat)) ∧ vv = .int .i64 (v : Nat) ∧ Hid (v = U % 9223372036854775808 / 2 ^ (63 - m)) ∧ v ≤ 9223372036854775807) (fun _ kk => (intOf kk + 1).toNat)
  case atStart => exact ⟨0, 0, by omega, rfl, rfl, by show 0 = _; omega, by omega⟩
  case round =>
    obtain ⟨m, v, hm, rfl, rfl, hv, hv2⟩ := hrel
    by_cases hm63 : m < 63
    · have hc := (hcell (62 - m) (by omega)).out
      have hv3 : Hid (2 * v + bit U (62 - m) = U % 9223372036854775808 / 2 ^ (63 - (m + 1))) := by
        show _ = _
        have e1 : bit U (62 - m) = U % 9223372036854775808 / 2 ^ (62 - m) % 2 := by
          have e : (9223372036854775808 : Nat) = 2 ^ (62 - m) * 2 ^ (m + 1) := by rw [← Nat.pow_add, show 62 - m + (m + 1) = 63 from by omega]
          unfold bit
          rw [e, Nat.mod_mul_right_div_self, Nat.pow_succ, Nat.mod_mul_left_mod]
        rw [hv.out, show 63 - m = (62 - m) + 1 from by omega, show 63 - (m + 1) = 62 - m from by omega, Nat.pow_succ, ← Nat.div_div_eq_div_mul, e1]
        omega
      have hv4 : 2 * v + bit U (62 - m) ≤ 9223372036854775807 := by
        rw [hv3.out]
        have := Nat.div_le_self (U % 9223372036854775808) (2 ^ (63 - (m + 1)))
        omega
      generalize bit U (62 - m) = y at *
      clear hcell h63
      go_wp2
      go_round
      case rel => exact ⟨m + 1, 2 * v + y, by omega, by go_num, by go_num, hv3, hv4⟩
      case measure => simp [intOf]; omega
    · have hm9 : m = 63 := by omega
      subst hm9
      have hv3 : Hid (v = U % 9223372036854775808) := by show _ = _; rw [hv.out]; simp
      have hbl := bit_le U 63
      clear hcell hv
      generalize bit U 63 = t at *
      by_cases ht : t = 1
      · subst ht
        have hz2 : Hid (z = (v : Int) - 4611686018427387904 - 4611686018427387904) := by show _ = _; rw [hz.out, hv3.out]; rfl
        go_wp2
        go_ret
        exact ⟨ret_int hz2.out.symm, rfl⟩
      · have ht0 : (((t : Nat) : Int) == 1) = false := by rw [beq_eq_false_iff_ne]; omega
        have hz2 : Hid (z = (v : Int)) := by show _ = _; rw [hz.out, hv3.out, if_neg ht]
        clear ht hz
        go_wp2
        go_ret
        exact ⟨ret_int hz2.out.symm, rfl⟩

end Go.Proofs.Ytkhihgilodhjfaa
