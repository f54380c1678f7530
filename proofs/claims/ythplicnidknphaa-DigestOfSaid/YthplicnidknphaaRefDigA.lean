/- Contracts of the reference of digest: the sum of two lists of bits. -/
import Derived.Test.YthplicnidknphaaPlainDig
import Derived.Test.YthplicnidknphaaRefNumB
namespace Go.Proofs.Ythplicnidknphaa
open Go.RowKit

def carry (a b k : Nat) : Nat := (a % 2 ^ k + b % 2 ^ k) / 2 ^ k
theorem mod_two_pow_succ (a k : Nat) : a % 2 ^ (k + 1) = a % 2 ^ k + 2 ^ k * bit a k := by
  unfold bit; rw [Nat.pow_succ, Nat.mod_mul]
theorem carry_succ (a b k : Nat) : carry a b (k + 1) = (bit a k + carry a b k + bit b k) / 2 := by
  unfold carry
  rw [mod_two_pow_succ, mod_two_pow_succ, Nat.pow_succ, ← Nat.div_div_eq_div_mul,
    show a % 2 ^ k + 2 ^ k * bit a k + (b % 2 ^ k + 2 ^ k * bit b k) = (a % 2 ^ k + b % 2 ^ k) + 2 ^ k * (bit a k + bit b k) from by rw [Nat.mul_add]; omega,
    Nat.add_mul_div_left _ _ (Nat.two_pow_pos k)]
  congr 1; omega
theorem bit_add (a b k : Nat) : bit (a + b) k = (bit a k + carry a b k + bit b k) % 2 := by
  have ha := Nat.div_add_mod a (2 ^ k)
  have hb := Nat.div_add_mod b (2 ^ k)
  have e : a + b = (a % 2 ^ k + b % 2 ^ k) + 2 ^ k * (a / 2 ^ k + b / 2 ^ k) := by rw [Nat.mul_add]; omega
  have e2 : (a + b) / 2 ^ k = carry a b k + (a / 2 ^ k + b / 2 ^ k) := by
    conv => lhs; rw [e]
    rw [Nat.add_mul_div_left _ _ (Nat.two_pow_pos k)]
    rfl
  unfold bit
  rw [e2]; omega
theorem carry_zero (a b : Nat) : carry a b 0 = 0 := by simp [carry, Nat.mod_one]
theorem carry_le (a b k : Nat) : carry a b k ≤ 1 := by
  unfold carry
  have h := Nat.two_pow_pos k
  have h1 := Nat.mod_lt a h
  have h2 := Nat.mod_lt b h
  rw [Nat.le_iff_lt_add_one, Nat.div_lt_iff_lt_mul h]; omega
theorem bit_shl (b up k : Nat) : bit (b * 2 ^ up) k = if up ≤ k then bit b (k - up) else 0 := by
  unfold bit
  by_cases h : up ≤ k
  · rw [if_pos h]
    have e : 2 ^ k = 2 ^ up * 2 ^ (k - up) := by rw [← Nat.pow_add]; congr 1; omega
    rw [e, ← Nat.div_div_eq_div_mul, Nat.mul_div_cancel _ (Nat.two_pow_pos up)]
  · rw [if_neg h]
    have e : 2 ^ up = 2 ^ k * (2 * 2 ^ (up - k - 1)) := by rw [← Nat.pow_succ', ← Nat.pow_add]; congr 1; omega
    rw [e, Nat.mul_left_comm, Nat.mul_div_cancel_left _ (Nat.two_pow_pos k), Nat.mul_left_comm]
    exact Nat.mul_mod_right _ _
theorem bit_mod (v n i : Nat) (h : i < n) : bit (v % 2 ^ n) i = bit v i := by
  rw [bit_test, bit_test, Nat.testBit_mod_two_pow]; simp [h]

set_option maxRecDepth 100000 in
theorem bsum_any (A B : Option Addr) (c d up a b : Nat) (w : World) (hA : RI w A 64 (tab 64 (bit a))) (hB : RI w B 64 (tab 64 (bit b))) (hup : up ≤ 64) :
    Calls Try.prog 103 #[.slice A 64 c, .slice B 64 d, .int .i64 (up : Nat)] w fun e w' => ∃ C c, e = .returned (.slice C 64 c) ∧ Ow iv w' w.heap.size 3 C 64 c (tab 64 (bit (a + b * 2 ^ up))) ∧ Below w.heap.size w w' := by
  have hmk : ∀ W : World, (Instr.makeSlice 22 (.int .i64 64) (.int .i64 64)).run Try.prog W = .ok (.slice (some ⟨W.heap.size, 0, none⟩) 64 64) (W.alloc (.cells (madeCells (Value.int .i64 0).cells 64) 3)) := run_make_one elemInt 64 (by omega) (by omega)
  have hown0 : Ow iv (w.alloc (.cells (madeCells (Value.int .i64 0).cells 64) 3)) w.heap.size 3 (some ⟨w.heap.size, 0, none⟩) 64 64 (tab 64 (fun i => if i < 0 then bit (a + b * 2 ^ up) i else 0)) := by
    have := Ow.made (enc := iv) w 3 0 (.int .i64 0) 64 rfl (by decide)
    rw [tab_zero] at this
    rwa [tab_congr (g := fun _ => 0)]
    intro i hi
    rw [if_neg (by omega)]
  have hb0 : Below w.heap.size w (w.alloc (.cells (madeCells (Value.int .i64 0).cells 64) 3)) := (by (repeat' (first | (with_reducible exact Below.refl _ _) | (with_reducible assumption) | (with_reducible refine Below.drew ?_) | (with_reducible refine below_drewN ?_ _) | (with_reducible refine Below.alloc ?_ ?_ _) | (with_reducible refine Below.setCell ?_ ?_ _) | omega | (simp; done) | (simp; omega))))
  obtain ⟨b1, o1, rfl, hl1⟩ := hA.addr (by omega)
  obtain ⟨b2, o2, rfl, hl2⟩ := hB.addr (by omega)
  have hc1 : ∀ k, k < 64 → Hid (w.cell? ⟨b1, o1 + k, none⟩ = some (.int .i64 (bit a k : Nat))) := fun k hk => hA.tab_cell hk
  have hc2 : ∀ k, k < 64 → Hid (w.cell? ⟨b2, o2 + k, none⟩ = some (.int .i64 (bit b k : Nat))) := fun k hk => hB.tab_cell hk
  have hstep : ∀ k, Hid (bit (a + b * 2 ^ up) k = (bit a k + carry a (b * 2 ^ up) k + (if up ≤ k then bit b (k - up) else 0)) % 2 ∧ carry a (b * 2 ^ up) (k + 1) = (bit a k + carry a (b * 2 ^ up) k + (if up ≤ k then bit b (k - up) else 0)) / 2) := fun k => by
    show _ ∧ _
    rw [← bit_shl]; exact ⟨bit_add _ _ _, carry_succ _ _ _⟩
  have hc0 := Lib.hid (carry_zero a (b * 2 ^ up))
  have hcl := carry_le a (b * 2 ^ up)
  generalize a + b * 2 ^ up = S at *
  generalize carry a (b * 2 ^ up) = C at *
  go_enter Try.func103, Try.ntmps103
  go_wp2
  go_loopw [8, 9] (fun cc kk wr => ∃ k, k ≤ 64 ∧ kk = .int .i64 (k : Nat) ∧ cc = .int .i64 (C k : Nat) ∧ Ow iv wr w.heap.size 3 (some ⟨w.heap.size, 0, none⟩) 64 64 (tab 64 (fun i => if i < k then bit S i else 0)) ∧ Below w.heap.size w wr) (fun _ kk _ => 64 - (intOf kk).toNat)
  case atStart => exact ⟨0, by omega, rfl, by rw [hc0.out]; rfl, hown0, hb0⟩
  case round =>
    obtain ⟨k, hk, rfl, rfl, hown, hb⟩ := hrel
    have hbs := hb.size
    by_cases hk8 : k < 64
    · have hfree := hown.free k
      have hset := fun v hv => Lib.hid (hown.tab_set (f' := fun i => if i < k + 1 then bit S i else 0) k (bit S k) v hk8 hv (fun i hi => by
        by_cases h1 : i = k
        · subst h1; simp
        · by_cases h2 : i < k
          · simp [h1, h2, Nat.lt_succ_of_lt h2]
          · simp [h1, h2, show ¬ i < k + 1 from by omega]))
      have h0 : wr.cell? ⟨w.heap.size, k, none⟩ = some (.int .i64 _) := hown.tab_cell hk8
      have h1 := (hb.cell (p := ⟨b1, o1 + k, none⟩) hl1).trans (hc1 k hk8).out
      have hs := hstep k
      have ba := bit_le a k
      have hck := hcl k
      generalize bit S k = sk at *
      generalize bit a k = ak at *
      clear hown hstep hc0 hcl
      by_cases hu : up ≤ k
      · have h2 := (hb.cell (p := ⟨b2, o2 + (k - up), none⟩) hl2).trans (hc2 (k - up) (by omega)).out
        rw [if_pos hu] at hs
        have bb := bit_le b (k - up)
        generalize bit b (k - up) = bk at *
        clear hc1 hc2
        go_wp2
        go_roundw
        case rel => exact ⟨k + 1, by omega, by go_num, by have := hs.out; congr 1; omega, (hset _ (by have := hs.out; congr 1; omega)).out, (by (repeat' (first | (with_reducible exact Below.refl _ _) | (with_reducible assumption) | (with_reducible refine Below.drew ?_) | (with_reducible refine below_drewN ?_ _) | (with_reducible refine Below.alloc ?_ ?_ _) | (with_reducible refine Below.setCell ?_ ?_ _) | omega | (simp; done) | (simp; omega))))⟩
        case measure => simp [intOf]; omega
      · rw [if_neg hu] at hs
        clear hc1 hc2
        go_wp2
        go_roundw
        case rel => exact ⟨k + 1, by omega, by go_num, by have := hs.out; congr 1; omega, (hset _ (by have := hs.out; congr 1; omega)).out, (by (repeat' (first | (with_reducible exact Below.refl _ _) | (with_reducible assumption) | (with_reducible refine Below.drew ?_) | (with_reducible refine below_drewN ?_ _) | (with_reducible refine Below.alloc ?_ ?_ _) | (with_reducible refine Below.setCell ?_ ?_ _) | omega | (simp; done) | (simp; omega))))⟩
        case measure => simp [intOf]; omega
    · have hk9 : k = 64 := by omega
      subst hk9
      have hl : tab 64 (fun i => if i < 64 then bit S i else 0) = tab 64 (bit S) := tab_congr fun i hi => by rw [if_pos hi]
      rw [hl] at hown
      clear hstep hc0 hcl hc1 hc2
      go_wp2
      go_ret
      exact ⟨_, 64, rfl, hown, hb⟩
end Go.Proofs.Ythplicnidknphaa
