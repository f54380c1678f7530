/- The reference's Get of eight bytes. -/
import Derived.Test.YthplicnidknphaaRefNumB
namespace Go.Proofs.Ythplicnidknphaa
open Go.RowKit

theorem getL_at (l : List UInt8) : ∀ k, k < l.length → getL l / 256 ^ k % 256 = byteAt l k := by
  induction l with
  | nil => intro k h; simp at h
  | cons c l ih =>
    intro k h
    cases k with
    | zero => simp only [getL, Nat.pow_zero, Nat.div_one]; have := c.toNat_lt; simp [byteAt]
    | succ k =>
      have e := ih k (by simpa using h)
      have hb : byteAt (c :: l) (k + 1) = byteAt l k := by simp [byteAt]
      rw [hb, ← e, Nat.pow_succ, Nat.mul_comm (256 ^ k) 256, ← Nat.div_div_eq_div_mul]
      have := c.toNat_lt
      simp only [getL]
      rw [show (c.toNat + 256 * getL l) / 256 = getL l from by omega]
theorem getL_bit (l : List UInt8) (k m : Nat) (hk : k < l.length) (hm : m < 8) : bit (getL l) (8 * k + m) = byteAt l k / 2 ^ m % 2 := by
  rw [← getL_at l k hk]
  unfold bit
  rw [Nat.pow_add, ← Nat.div_div_eq_div_mul, Nat.pow_mul]
  generalize getL l / (2 ^ 8) ^ k = V
  have e : (256 : Nat) = 2 ^ m * 2 ^ (8 - m) := by rw [← Nat.pow_add, show m + (8 - m) = 8 from by omega]
  rw [e, Nat.mod_mul_right_div_self, show 8 - m = (7 - m) + 1 from by omega, Nat.pow_succ, Nat.mod_mul_left_mod]

theorem refget_short (A : Option Addr) (n c : Nat) (w : World) (h : n < 8) : Calls Try.prog 78 #[.slice A n c] w fun e w' => e = .returned (.tuple #[.int .i64 0, .int .i64 10]) ∧ w = w' := by
  have h1 : decide ((n : Int) < 8) = true := by simp; omega
  go_enter Try.func78, Try.ntmps78
  go_wp2
  go_ret2
  exact ⟨rfl, rfl⟩
theorem refget_long (A : Option Addr) (n c : Nat) (w : World) (h : 8 < n) (hn : n ≤ maxLen) : Calls Try.prog 78 #[.slice A n c] w fun e w' => e = .returned (.tuple #[.int .i64 0, .int .i64 12]) ∧ w = w' := by
  unfold maxLen at hn
  have h1 : decide ((n : Int) < 8) = false := by simp; omega
  have h2 : decide ((8 : Int) < n) = true := by simp; omega
  go_enter Try.func78, Try.ntmps78
  go_wp2
  go_ret2
  exact ⟨rfl, rfl⟩
theorem refget_any (A : Option Addr) (c : Nat) (l : List UInt8) (w : World) (hl : RB w A 8 l) : Calls Try.prog 78 #[.slice A 8 c] w fun e w' => e = .returned (.tuple #[.int .i64 (sg (getL l)), .int .i64 0]) ∧ Below w.heap.size w w' := by
  have hlt : getL l < 18446744073709551616 := by have := getL_lt l; rw [hl.1] at this; omega
  have hbit := fun k hk m hm => Lib.hid (getL_bit l k m (by rw [hl.1]; exact hk) hm)
  have hnum := fun A c w => number_any A c (getL l) w hlt
  generalize getL l = U at *
  go_enter Try.func78, Try.ntmps78
  go_wp2
  go_loopw [4, 5] (fun v i wr => ∃ k A c, k ≤ 8 ∧ i = .int .i64 (k : Nat) ∧ v = .slice A (8 * k) c ∧ Ow iv wr w.heap.size 3 A (8 * k) c (tab (8 * k) (bit U)) ∧ Below w.heap.size w wr) (fun _ i _ => 8 - (intOf i).toNat)
  case atStart => exact ⟨0, none, 0, by omega, rfl, rfl, Ow.nil _ _ _ _, Below.refl _ _⟩
  case round =>
    obtain ⟨k, A, c, hk, rfl, rfl, hown, hb⟩ := hrel
    have hbs := hb.size
    by_cases hk8 : k < 8
    · obtain ⟨b, o, rfl, hb0, hc⟩ := hl.at_ hk8
      have hc := (hb.cell (p := ⟨b, o + k, none⟩) hb0).trans hc
      have hbi := hbit k hk8
      have hy := byteAt_lt l k
      generalize byteAt l k = y at *
      clear hbit hnum
      go_wp2
      obtain ⟨wo, rfl⟩ : ∃ wo : World, wo = wr := ⟨_, rfl⟩
      go_loopw [4, 6, 7] (fun v n j wi => ∃ m e A c, m ≤ 8 ∧ j = .int .i64 (m : Nat) ∧ Hid (e = y / 2 ^ m) ∧ e ≤ 255 ∧ n = .int .i64 (e : Nat) ∧ v = .slice A (8 * k + m) c ∧ Ow iv wi w.heap.size 3 A (8 * k + m) c (tab (8 * k + m) (bit U)) ∧ Below w.heap.size w wi) (fun _ _ j _ => 8 - (intOf j).toNat)
      case atStart => exact ⟨0, y, A, c, by omega, rfl, by show y = y / 2 ^ 0; omega, by omega, rfl, rfl, hown, hb⟩
      case round =>
        obtain ⟨m, e, A, c, hm, rfl, he, he15, rfl, rfl, hown, hb⟩ := hrel
        have hbs := hb.size
        by_cases hm4 : m < 8
        · have hL : Hid (tab (8 * k + m) (bit U) ++ [((e : Nat) : Int) % 2] = tab (8 * k + (m + 1)) (bit U)) := by
            show _ = tab (8 * k + m + 1) _
            rw [← tab_succ, (hbi m hm4).out, ← he.out]; rfl
          have he2 : Hid (e / 2 = y / 2 ^ (m + 1)) := by
            show e / 2 = _
            rw [he.out, Nat.div_div_eq_div_mul, Nat.pow_succ]
          clear hbi hc
          go_wp2_with (at_builtin; refine wpList_app rfl rfl elemInt iv_one (s := .tmp 27) (N := 8 * k + (m + 1)) (L := tab (8 * k + (m + 1)) (bit U)) rfl (hown.below (b := wr.heap.size) (by (repeat' (first | (with_reducible exact Below.refl _ _) | (with_reducible assumption) | (with_reducible refine Below.drew ?_) | (with_reducible refine below_drewN ?_ _) | (with_reducible refine Below.alloc ?_ ?_ _) | (with_reducible refine Below.setCell ?_ ?_ _) | omega | (simp; done) | (simp; omega)))) (by first | omega | (simp; done) | (simp; omega))) rfl (k := [((e : Nat) : Int) % 2]) (Rd.of_block (l := [((e : Nat) : Int) % 2]) (heap_top _ _ (by simp)) rfl) rfl (hL.out) (by unfold maxLen; omega) (by omega) (by first | omega | (simp; done) | (simp; omega)) ?_; intro A5 c5 w5 hown5 hg5 hat5 hb5)
          replace hb5 := below_then' (a := w) (B := w.heap.size) (by (repeat' (first | (with_reducible exact Below.refl _ _) | (with_reducible assumption) | (with_reducible refine Below.drew ?_) | (with_reducible refine below_drewN ?_ _) | (with_reducible refine Below.alloc ?_ ?_ _) | (with_reducible refine Below.setCell ?_ ?_ _) | omega | (simp; done) | (simp; omega)))) hb5 (by first | omega | (simp; done) | (simp; omega)); have hb5s := hb5.size
          exact ⟨⟨_, _, _, ⟨m + 1, by omega, by go_num, e / 2, he2, by omega, by go_num, A5, c5, rfl, hown5, hb5⟩, rfl, rfl, rfl⟩, by simp [intOf]; omega⟩
        · have hm5 : m = 8 := by omega
          subst hm5
          clear hbi hc
          go_wp2
          go_roundw
          case rel => exact ⟨k + 1, A, c, by omega, by go_num, rfl, hown, hb⟩
          case measure => simp [intOf]; omega
    · have hk9 : k = 8 := by omega
      subst hk9
      clear hbit
      go_wp2_with (go_at_call 104; (with_reducible refine (hnum _ _ _ hown.rd.ri).mono ?_); rintro e w' ⟨rfl, rfl⟩)
      go_ret2
      exact ⟨rfl, hb⟩

end Go.Proofs.Ythplicnidknphaa
