/- Contracts of the reference of arith: sums and products, bit by bit. -/
import Derived.Test.YtkhihgilodhjfaaRefNumB
namespace Go.Proofs.Ytkhihgilodhjfaa
open Go.RowKit

/-- What is carried into a place. -/
def carryK (U V k : Nat) : Nat := (U % 2 ^ k + V % 2 ^ k) / 2 ^ k
theorem carryK_le (U V k : Nat) : carryK U V k ≤ 1 := by
  unfold carryK
  have h : 0 < 2 ^ k := Nat.two_pow_pos k
  have h1 := Nat.mod_lt U h
  have h2 := Nat.mod_lt V h
  have : (U % 2 ^ k + V % 2 ^ k) / 2 ^ k < 2 := Nat.div_lt_of_lt_mul (by omega)
  omega
theorem mod_next (U k : Nat) : U % 2 ^ (k + 1) = U % 2 ^ k + 2 ^ k * bit U k := by unfold bit; rw [Nat.pow_succ, Nat.mod_mul]
theorem carryK_next (U V k : Nat) : (bit U k + bit V k + carryK U V k) / 2 = carryK U V (k + 1) := by
  unfold carryK
  rw [mod_next, mod_next, show U % 2 ^ k + 2 ^ k * bit U k + (V % 2 ^ k + 2 ^ k * bit V k) = (U % 2 ^ k + V % 2 ^ k) + 2 ^ k * (bit U k + bit V k) from by rw [Nat.mul_add]; omega, Nat.pow_succ, ← Nat.div_div_eq_div_mul, Nat.add_mul_div_left _ _ (Nat.two_pow_pos k)]
  congr 1; omega
theorem bit_add (U V k : Nat) : (bit U k + bit V k + carryK U V k) % 2 = bit (U + V) k := by
  unfold carryK
  have h : (U + V) / 2 ^ k = U / 2 ^ k + V / 2 ^ k + (U % 2 ^ k + V % 2 ^ k) / 2 ^ k := by
    have e : U + V = (U % 2 ^ k + V % 2 ^ k) + 2 ^ k * (U / 2 ^ k + V / 2 ^ k) := by
      have h1 := Nat.mod_add_div U (2 ^ k)
      have h2 := Nat.mod_add_div V (2 ^ k)
      rw [Nat.mul_add]; omega
    rw [e, Nat.add_mul_div_left _ _ (Nat.two_pow_pos k)]
    omega
  unfold bit
  rw [h]; omega
theorem bit_mod64 (x i : Nat) (h : i < 64) : bit (x % 18446744073709551616) i = bit x i := by
  unfold bit
  have e : (18446744073709551616 : Nat) = 2 ^ i * 2 ^ (64 - i) := by rw [← Nat.pow_add, show i + (64 - i) = 64 from by omega]
  rw [e, Nat.mod_mul_right_div_self, show 64 - i = (63 - i) + 1 from by omega, Nat.pow_succ, Nat.mod_mul_left_mod]
theorem un_add (a b : Int) : (un a + un b) % 18446744073709551616 = un (a + b) := by unfold un; omega
theorem sg_sum (a b : Int) : sg ((un a + un b) % 18446744073709551616) = wrap64 (a + b) := by unfold sg un wrap64; split <;> omega
theorem wrap64_wrap (a : Int) : wrap64 (wrap64 a) = wrap64 a := by unfold wrap64; omega
theorem wrap64_un (a : Int) : un (wrap64 a) = un a := by unfold un wrap64; omega
theorem wrap64_sg (a : Int) : wrap64 a = sg (un a) := by unfold sg un wrap64; split <;> omega

set_option maxRecDepth 100000 in
theorem refadd03_any (a b : Int) (w : World) (ha : -9223372036854775808 ≤ a ∧ a ≤ 9223372036854775807) (hb : -9223372036854775808 ≤ b ∧ b ≤ 9223372036854775807) :
    Calls Try.prog 67 #[.int .i64 a, .int .i64 b] w fun e w' => e = .returned (.int .i64 (wrap64 (a + b))) ∧ Below w.heap.size w w' := by
  have hba := fun w => allbits_any a w ha.1 ha.2
  have hbb := fun w => allbits_any b w hb.1 hb.2
  have hnum := fun A c w h => number_any A c ((un a + un b) % 18446744073709551616) w (by omega) h
  rw [sg_sum] at hnum
  have htab : Hid (tab 64 (bit (un a + un b)) = tab 64 (bit ((un a + un b) % 18446744073709551616))) := tab_congr fun i hi => (bit_mod64 _ i hi).symm
  generalize wrap64 (a + b) = R at *
  generalize (un a + un b) % 18446744073709551616 = S at *
  generalize un a = U at *
  generalize un b = V at *
  clear ha hb
  go_enter Try.func67, Try.ntmps67
  go_wp2_with (first
    | ((go_at_call 69; (with_reducible refine (hba _).mono ?_); rintro e w1 ⟨A1, c1, rfl, own1, hb1⟩); replace hb1 := below_then' (a := w) (B := w.heap.size) (by (repeat' (first | (with_reducible exact Below.refl _ _) | (with_reducible assumption) | (with_reducible refine Below.drew ?_) | (with_reducible refine below_drewN ?_ _) | (with_reducible refine Below.alloc ?_ ?_ _) | (with_reducible refine Below.setCell ?_ ?_ _) | omega | (simp; done) | (simp; omega)))) hb1 (by first | omega | (simp; done) | (simp; omega)); have hb1s := hb1.size)
    | ((go_at_call 69; (with_reducible refine (hbb _).mono ?_); rintro e w2 ⟨A2, c2, rfl, own2, hb2⟩); have own1a := own1.below hb2 (Nat.le_refl _); replace hb2 := below_then' (a := w) (B := w.heap.size) (by (repeat' (first | (with_reducible exact Below.refl _ _) | (with_reducible assumption) | (with_reducible refine Below.drew ?_) | (with_reducible refine below_drewN ?_ _) | (with_reducible refine Below.alloc ?_ ?_ _) | (with_reducible refine Below.setCell ?_ ?_ _) | omega | (simp; done) | (simp; omega)))) hb2 (by first | omega | (simp; done) | (simp; omega)); have hb2s := hb2.size))
  have hb2s := hb2.size
  obtain ⟨g1, rfl, _, hg1⟩ := own1a.addr (by omega)
  obtain ⟨g2, rfl, _, hg2⟩ := own2.addr (by omega)
  have hc1 : ∀ k, k < 64 → Hid (w2.cell? ⟨g1, k, none⟩ = some (.int .i64 (bit U k : Nat))) := fun k hk => own1a.tab_cell hk
  have hc2 : ∀ k, k < 64 → Hid (w2.cell? ⟨g2, k, none⟩ = some (.int .i64 (bit V k : Nat))) := fun k hk => own2.tab_cell hk
  clear own1 own1a own2 hba hbb
  go_loopw [7, 8, 9] (fun v cc i wr => ∃ k A c, k ≤ 64 ∧ i = .int .i64 (k : Nat) ∧ cc = .int .i64 (carryK U V k : Nat) ∧ v = .slice A k c ∧ Ow iv wr w2.heap.size 3 A k c (tab k (bit (U + V))) ∧ Below w2.heap.size w2 wr) (fun _ _ i _ => 64 - (intOf i).toNat)
  case atStart => exact ⟨0, none, 0, by omega, rfl, by simp [carryK, Nat.mod_one], rfl, Ow.nil _ _ _ _, Below.refl _ _⟩
  case round =>
    obtain ⟨k, A, c, hk, rfl, rfl, rfl, hown, hb⟩ := hrel
    have hbs := hb.size
    by_cases hlt : k < 64
    · have d1 := (hb.cell (p := ⟨g1, k, none⟩) hg1).trans (hc1 k hlt).out
      have d2 := (hb.cell (p := ⟨g2, k, none⟩) hg2).trans (hc2 k hlt).out
      have l1 := bit_le U k
      have l2 := bit_le V k
      have l3 := carryK_le U V k
      have hbit := Lib.hid (bit_add U V k)
      have hcar := Lib.hid (carryK_next U V k)
      have hsu := Lib.hid (tab_succ k (bit (U + V)))
      rw [← hbit.out] at hsu
      clear hbit hc1 hc2 htab hnum
      generalize hcK : carryK U V (k + 1) = c' at *
      generalize hLK : tab (k + 1) (bit (U + V)) = L' at *
      replace hcK := Lib.hid hcK
      replace hLK := Lib.hid hLK
      generalize tab k (bit (U + V)) = L at *
      generalize bit U k = u at *
      generalize bit V k = v at *
      generalize carryK U V k = cc at *
      have hm2 : (((u + v + cc) % 2 : Nat) : Int) = ((u : Int) + v + cc) % 2 := by omega
      rw [hm2] at hsu
      clear hm2
      go_wp2
      go_quiet (fail)
      go_wp2_with (at_builtin; refine wpList_app rfl rfl elemInt iv_one (s := .tmp 30) (N := k + 1) (L := L') rfl (hown.below (b := wr.heap.size) (by (repeat' (first | (with_reducible exact Below.refl _ _) | (with_reducible assumption) | (with_reducible refine Below.drew ?_) | (with_reducible refine below_drewN ?_ _) | (with_reducible refine Below.alloc ?_ ?_ _) | (with_reducible refine Below.setCell ?_ ?_ _) | omega | (simp; done) | (simp; omega)))) (by first | omega | (simp; done) | (simp; omega))) rfl (k := [((u : Int) + (v : Int) + (cc : Int)) % 2]) (Rd.of_block (l := [((u : Int) + (v : Int) + (cc : Int)) % 2]) (heap_top _ _ (by simp)) rfl) rfl (hsu.out) (by unfold maxLen; omega) (by omega) (by first | omega | (simp; done) | (simp; omega)) ?_; intro A5 c5 w5 hown5 hg5 hat5 hb5)
      replace hb5 := below_then' (a := w2) (B := w2.heap.size) (by (repeat' (first | (with_reducible exact Below.refl _ _) | (with_reducible assumption) | (with_reducible refine Below.drew ?_) | (with_reducible refine below_drewN ?_ _) | (with_reducible refine Below.alloc ?_ ?_ _) | (with_reducible refine Below.setCell ?_ ?_ _) | omega | (simp; done) | (simp; omega)))) hb5 (by first | omega | (simp; done) | (simp; omega)); have hb5s := hb5.size
      go_roundw
      case rel => exact ⟨k + 1, A5, c5, by omega, by go_num, by rw [hcK.out, ← hcar.out]; go_num, rfl, by rw [hLK.out]; exact hown5, hb5⟩
      case measure => simp [intOf]; omega
    · have hk9 : k = 64 := by omega
      subst hk9
      rw [htab.out] at hown
      go_wp2_with (go_at_call 85; (with_reducible refine (hnum _ _ _ hown.rd.ri).mono ?_); rintro e w9 ⟨rfl, rfl⟩)
      go_ret
      exact ⟨rfl, below_then' hb2 hb hb2s⟩

/-- A product, bit by bit: what is summed, and what is doubled. -/
def mulS (a : Int) (V : Nat) : Nat → Int
  | 0 => 0
  | k + 1 => wrap64 (mulS a V k + (if bit V k = 1 then wrap64 (a * 2 ^ k) else 0))
theorem mulS_eq (a : Int) (V : Nat) : ∀ k, mulS a V k = wrap64 (a * ((V % 2 ^ k : Nat) : Int)) := by
  intro k
  induction k with
  | zero => simp [mulS, Nat.mod_one, wrap64]
  | succ k ih =>
    unfold mulS
    rw [ih, mod_next]
    have hb := bit_le V k
    have h : bit V k = 0 ∨ bit V k = 1 := by omega
    rcases h with h | h
    · rw [h, if_neg (by omega), Nat.mul_zero, Int.add_zero, Nat.add_zero, wrap64_wrap]
    · rw [h, if_pos rfl, Nat.mul_one, Int.natCast_add, Int.mul_add, Int.natCast_pow]
      show wrap64 (wrap64 _ + wrap64 _) = wrap64 (_ + a * 2 ^ k)
      generalize a * ((V % 2 ^ k : Nat) : Int) = x
      generalize a * 2 ^ k = y
      unfold wrap64; omega
theorem dbl_wrap (a : Int) (k : Nat) : wrap64 (wrap64 (a * 2 ^ k) + wrap64 (a * 2 ^ k)) = wrap64 (a * 2 ^ (k + 1)) := by
  rw [Int.pow_succ, ← Int.mul_assoc]
  generalize a * 2 ^ k = y
  unfold wrap64; omega
theorem mulS_64 (a b : Int) : mulS a (un b) 64 = wrap64 (a * b) := by
  rw [mulS_eq, Nat.mod_eq_of_lt (un_lt b)]
  have : ∃ q : Int, ((un b : Nat) : Int) = b + q * 18446744073709551616 := ⟨-(b / 18446744073709551616), by unfold un; omega⟩
  obtain ⟨q, hq⟩ := this
  rw [hq, Int.mul_add, ← Int.mul_assoc]
  generalize a * b = x
  generalize a * q = y
  unfold wrap64; omega
theorem wrap64_in' (x : Int) : -9223372036854775808 ≤ wrap64 x ∧ wrap64 x ≤ 9223372036854775807 := by unfold wrap64; omega
theorem mulS_in (a : Int) (V k : Nat) : -9223372036854775808 ≤ mulS a V k ∧ mulS a V k ≤ 9223372036854775807 := by rw [mulS_eq]; exact wrap64_in' _

set_option maxRecDepth 100000 in
theorem refmul03_any (a b : Int) (w : World) (ha : -9223372036854775808 ≤ a ∧ a ≤ 9223372036854775807) (hb : -9223372036854775808 ≤ b ∧ b ≤ 9223372036854775807) :
    Calls Try.prog 68 #[.int .i64 a, .int .i64 b] w fun e w' => e = .returned (.int .i64 (wrap64 (a * b))) ∧ Below w.heap.size w w' := by
  have hbb := fun w => allbits_any b w hb.1 hb.2
  have hend := Lib.hid (mulS_64 a b)
  have ha0 : Hid (a = wrap64 (a * 2 ^ 0)) := by show a = _; rw [Int.pow_zero, Int.mul_one]; unfold wrap64; omega
  generalize wrap64 (a * b) = R at *
  generalize un b = V at *
  clear hb
  go_enter Try.func68, Try.ntmps68
  go_wp2_with ((go_at_call 69; (with_reducible refine (hbb _).mono ?_); rintro e w2 ⟨A2, c2, rfl, own2, hb2⟩); replace hb2 := below_then' (a := w) (B := w.heap.size) (by (repeat' (first | (with_reducible exact Below.refl _ _) | (with_reducible assumption) | (with_reducible refine Below.drew ?_) | (with_reducible refine below_drewN ?_ _) | (with_reducible refine Below.alloc ?_ ?_ _) | (with_reducible refine Below.setCell ?_ ?_ _) | omega | (simp; done) | (simp; omega)))) hb2 (by first | omega | (simp; done) | (simp; omega)); have hb2s := hb2.size)
  have hb2s := hb2.size
  obtain ⟨g2, rfl, _, hg2⟩ := own2.addr (by omega)
  have hc2 : ∀ k, k < 64 → Hid (w2.cell? ⟨g2, k, none⟩ = some (.int .i64 (bit V k : Nat))) := fun k hk => own2.tab_cell hk
  clear own2 hbb
  go_loopw [0, 6, 7] (fun aa s i wr => ∃ k, k ≤ 64 ∧ i = .int .i64 (k : Nat) ∧ aa = .int .i64 (wrap64 (a * 2 ^ k)) ∧ s = .int .i64 (mulS a V k) ∧ Below w2.heap.size w2 wr) (fun _ _ i _ => 64 - (intOf i).toNat)
  case atStart => exact ⟨0, by omega, rfl, by rw [← ha0.out], rfl, Below.refl _ _⟩
  case round =>
    obtain ⟨k, hk, rfl, rfl, rfl, hb⟩ := hrel
    have hbs := hb.size
    by_cases hlt : k < 64
    · have d2 := (hb.cell (p := ⟨g2, k, none⟩) hg2).trans (hc2 k hlt).out
      have hdd := fun w => refadd03_any _ _ w (wrap64_in' (a * 2 ^ k)) (wrap64_in' (a * 2 ^ k))
      have hsd := fun w => refadd03_any _ _ w (mulS_in a V k) (wrap64_in' (a * 2 ^ k))
      rw [dbl_wrap] at hdd
      have hm : mulS a V (k + 1) = wrap64 (mulS a V k + (if bit V k = 1 then wrap64 (a * 2 ^ k) else 0)) := rfl
      have hl := bit_le V k
      have hms := mulS_in a V k
      have hbc : bit V k = 0 ∨ bit V k = 1 := by omega
      rcases hbc with h | h
      · rw [h] at d2 hm
        have hm' : Hid (mulS a V (k + 1) = mulS a V k) := by show _ = _; rw [hm]; simp; unfold wrap64; omega
        clear hm hl hms h hc2 hsd
        generalize wrap64 (a * 2 ^ k) = x at *
        generalize hx' : wrap64 (a * 2 ^ (k + 1)) = x' at *
        generalize hs' : mulS a V (k + 1) = s' at *
        replace hx' := Lib.hid hx'
        replace hs' := Lib.hid hs'
        generalize mulS a V k = s at *
        go_wp2_with ((go_at_call 67; (with_reducible refine (hdd _).mono ?_); rintro e w5 ⟨rfl, hb5⟩); replace hb5 := below_then' (a := w2) (B := w2.heap.size) (by (repeat' (first | (with_reducible exact Below.refl _ _) | (with_reducible assumption) | (with_reducible refine Below.drew ?_) | (with_reducible refine below_drewN ?_ _) | (with_reducible refine Below.alloc ?_ ?_ _) | (with_reducible refine Below.setCell ?_ ?_ _) | omega | (simp; done) | (simp; omega)))) hb5 (by first | omega | (simp; done) | (simp; omega)); have hb5s := hb5.size)
        go_roundw
        case rel => exact ⟨k + 1, by omega, by go_num, by rw [hx'.out], by rw [hs'.out, hm'.out], hb5⟩
        case measure => simp [intOf]; omega
      · rw [h] at d2 hm
        rw [if_pos rfl] at hm
        rw [← hm] at hsd
        clear hm hl hms h hc2
        generalize wrap64 (a * 2 ^ k) = x at *
        generalize hx' : wrap64 (a * 2 ^ (k + 1)) = x' at *
        generalize hs' : mulS a V (k + 1) = s' at *
        replace hx' := Lib.hid hx'
        replace hs' := Lib.hid hs'
        generalize mulS a V k = s at *
        go_wp2_with (first
          | ((go_at_call 67; (with_reducible refine (hsd _).mono ?_); rintro e w5 ⟨rfl, hb5⟩); replace hb5 := below_then' (a := w2) (B := w2.heap.size) (by (repeat' (first | (with_reducible exact Below.refl _ _) | (with_reducible assumption) | (with_reducible refine Below.drew ?_) | (with_reducible refine below_drewN ?_ _) | (with_reducible refine Below.alloc ?_ ?_ _) | (with_reducible refine Below.setCell ?_ ?_ _) | omega | (simp; done) | (simp; omega)))) hb5 (by first | omega | (simp; done) | (simp; omega)); have hb5s := hb5.size)
          | ((go_at_call 67; (with_reducible refine (hdd _).mono ?_); rintro e w6 ⟨rfl, hb6⟩); replace hb6 := below_then' (a := w2) (B := w2.heap.size) (by (repeat' (first | (with_reducible exact Below.refl _ _) | (with_reducible assumption) | (with_reducible refine Below.drew ?_) | (with_reducible refine below_drewN ?_ _) | (with_reducible refine Below.alloc ?_ ?_ _) | (with_reducible refine Below.setCell ?_ ?_ _) | omega | (simp; done) | (simp; omega)))) hb6 (by first | omega | (simp; done) | (simp; omega)); have hb6s := hb6.size))
        go_roundw
        case rel => exact ⟨k + 1, by omega, by go_num, by rw [hx'.out], by rw [hs'.out], hb6⟩
        case measure => simp [intOf]; omega
    · have hk9 : k = 64 := by omega
      subst hk9
      go_wp2
      go_ret
      exact ⟨ret_int (by rw [hend.out]), below_then' hb2 hb hb2s⟩
end Go.Proofs.Ytkhihgilodhjfaa
