/- Parts: RefDigA, RefDigB. -/
import Derived.Test.YtpmkpckldnnigaaGreatPr02
import Derived.Test.YtpmkpckldnnigaaGreatPr43
import Derived.Test.YtpmkpckldnnigaaGreatPr07
set_option linter.unusedVariables false
set_option linter.unusedSimpArgs false
set_option maxRecDepth 100000
set_option maxHeartbeats 40000000
namespace Go.Proofs.YtpmkpckldnnigaaGreat
open Go.RowKit
def va2 (a b k : Nat) : Nat := (a % 2 ^ k + b % 2 ^ k) / 2 ^ k
theorem qt2 (a k : Nat) : a % 2 ^ (k + 1) = a % 2 ^ k + 2 ^ k * bit a k := by
  unfold bit; rw [Nat.pow_succ, Nat.mod_mul]
theorem carry_succ (a b k : Nat) : va2 a b (k + 1) = (bit a k + va2 a b k + bit b k) / 2 := by
  unfold va2; rw [qt2, qt2, Nat.pow_succ, ← Nat.div_div_eq_div_mul,
    show a % 2 ^ k + 2 ^ k * bit a k + (b % 2 ^ k + 2 ^ k * bit b k) = (a % 2 ^ k + b % 2 ^ k) + 2 ^ k * (bit a k + bit b k) from by rw [Nat.mul_add]; omega,
    Nat.add_mul_div_left _ _ (Nat.two_pow_pos k)]
  congr 1; omega
theorem dig_bit_add (a b k : Nat) : bit (a + b) k = (bit a k + va2 a b k + bit b k) % 2 := by
  have ha := Nat.div_add_mod a (2 ^ k); have hb := Nat.div_add_mod b (2 ^ k); have e : a + b = (a % 2 ^ k + b % 2 ^ k) + 2 ^ k * (a / 2 ^ k + b / 2 ^ k) := by rw [Nat.mul_add]; omega
  have e2 : (a + b) / 2 ^ k = va2 a b k + (a / 2 ^ k + b / 2 ^ k) := by
    conv => lhs; rw [e]
    rw [Nat.add_mul_div_left _ _ (Nat.two_pow_pos k)]
    rfl
  unfold bit; rw [e2]; omega
theorem carry_zero (a b : Nat) : va2 a b 0 = 0 := by simp [va2, Nat.mod_one]
theorem carry_le (a b k : Nat) : va2 a b k ≤ 1 := by
  unfold va2; have h := Nat.two_pow_pos k; have h1 := Nat.mod_lt a h; have h2 := Nat.mod_lt b h; rw [Nat.le_iff_lt_add_one, Nat.div_lt_iff_lt_mul h]; omega
theorem bit_shl (b up k : Nat) : bit (b * 2 ^ up) k = if up ≤ k then bit b (k - up) else 0 := by
  unfold bit
  by_cases h : up ≤ k
  · rw [if_pos h]; have e : 2 ^ k = 2 ^ up * 2 ^ (k - up) := by rw [← Nat.pow_add]; congr 1; omega
    rw [e, ← Nat.div_div_eq_div_mul, Nat.mul_div_cancel _ (Nat.two_pow_pos up)]
  · rw [if_neg h]; have e : 2 ^ up = 2 ^ k * (2 * 2 ^ (up - k - 1)) := by rw [← Nat.pow_succ', ← Nat.pow_add]; congr 1; omega
    rw [e, Nat.mul_left_comm, Nat.mul_div_cancel_left _ (Nat.two_pow_pos k), Nat.mul_left_comm]; exact Nat.mul_mod_right _ _
theorem bit_mod (v n i : Nat) (h : i < n) : bit (v % 2 ^ n) i = bit v i := by
  rw [vc4, vc4, Nat.testBit_mod_two_pow]; simp [h]
theorem bsum_any (A B : Option Addr) (c d up a b : Nat) (w : World) (hA : RI w A 64 (tab 64 (bit a))) (hB : RI w B 64 (tab 64 (bit b))) (hup : up ≤ 64) :
    Calls Tryz.prog 146 #[.slice A 64 c, .slice B 64 d, .int .i64 (up : Nat)] w fun e w' => ∃ C c, e = .returned (.slice C 64 c) ∧ Ow iv w' w.heap.size 3 C 64 c (tab 64 (bit (a + b * 2 ^ up))) ∧ Below w.heap.size w w' := by
  have hmk : ∀ W : World, (Instr.makeSlice 23 (.int .i64 64) (.int .i64 64)).run Tryz.prog W = .ok (.slice (some ⟨W.heap.size, 0, none⟩) 64 64) (W.alloc (.cells (madeCells (Value.int .i64 0).cells 64) 3)) := qi4 qk5 64 omg omg; have hown0 : Ow iv (w.alloc (.cells (madeCells (Value.int .i64 0).cells 64) 3)) w.heap.size 3 (some ⟨w.heap.size, 0, none⟩) 64 64 (tab 64 (fun i => if i < 0 then bit (a + b * 2 ^ up) i else 0)) := by
    have := Ow.made (enc := iv) w 3 0 (.int .i64 0) 64 rfl dcd; rw [tab_zero] at this
    rwa [ql9 (g := fun _ => 0)]
    intro i hi; rw [if_neg omg]
  have hb0 : Below w.heap.size w (w.alloc (.cells (madeCells (Value.int .i64 0).cells 64) 3)) := gwn; obtain ⟨b1, o1, rfl, hl1⟩ := hA.addr omg; obtain ⟨b2, o2, rfl, hl2⟩ := hB.addr omg; have hc1 : ∀ k, k < 64 → Hid (w.cell? ⟨b1, o1 + k, none⟩ = some (.int .i64 (bit a k : Nat))) := fun k hk => hA.tab_cell hk
  have hc2 : ∀ k, k < 64 → Hid (w.cell? ⟨b2, o2 + k, none⟩ = some (.int .i64 (bit b k : Nat))) := fun k hk => hB.tab_cell hk
  have hstep : ∀ k, Hid (bit (a + b * 2 ^ up) k = (bit a k + va2 a (b * 2 ^ up) k + (if up ≤ k then bit b (k - up) else 0)) % 2 ∧ va2 a (b * 2 ^ up) (k + 1) = (bit a k + va2 a (b * 2 ^ up) k + (if up ≤ k then bit b (k - up) else 0)) / 2) := fun k => by
    show _ ∧ _
    rw [← bit_shl]; exact ⟨dig_bit_add _ _ _, carry_succ _ _ _⟩
  have hc0 := hdd (carry_zero a (b * 2 ^ up)); have hcl := carry_le a (b * 2 ^ up); generalize a + b * 2 ^ up = S at *; generalize va2 a (b * 2 ^ up) = C at *; go_enter Tryz.func146, Tryz.ntmps146; go_wp2; go_loopw [8, 9] (fun cc kk wr => ∃ k, k ≤ 64 ∧ kk = .int .i64 (k : Nat) ∧ cc = .int .i64 (C k : Nat) ∧ Ow iv wr w.heap.size 3 (some ⟨w.heap.size, 0, none⟩) 64 64 (tab 64 (fun i => if i < k then bit S i else 0)) ∧ Below w.heap.size w wr) (fun _ kk _ => 64 - (intOf kk).toNat)
  case atStart => exact ⟨0, omg, rfl, by rw [hc0.out]; rfl, hown0, hb0⟩
  case round =>
    obtain ⟨k, hk, rfl, rfl, hown, hb⟩ := hrel; have hbs := hb.size
    by_cases hk8 : k < 64
    · have hfree := hown.free k; have hset := fun v hv => hdd (hown.tab_set (f' := fun i => if i < k + 1 then bit S i else 0) k (bit S k) v hk8 hv (fun i hi => by
        by_cases h1 : i = k
        · subst h1; simp
        · by_cases h2 : i < k
          · simp [h1, h2, Nat.lt_succ_of_lt h2]
          · simp [h1, h2, show ¬ i < k + 1 from by omega]))
      have h0 : wr.cell? ⟨w.heap.size, k, none⟩ = some (.int .i64 _) := hown.tab_cell hk8; have h1 := (hb.cell (p := ⟨b1, o1 + k, none⟩) hl1).trans (hc1 k hk8).out; have hs := hstep k; have ba := qp7 a k; have hck := hcl k; generalize bit S k = sk at *; generalize bit a k = ak at *; clear hown hstep hc0 hcl
      by_cases hu : up ≤ k
      · have h2 := (hb.cell (p := ⟨b2, o2 + (k - up), none⟩) hl2).trans (hc2 (k - up) omg).out; rw [if_pos hu] at hs; have bb := qp7 b (k - up); generalize bit b (k - up) = bk at *; clear hc1 hc2; go_wp2; go_roundw
        case rel => exact ⟨k + 1, omg, by go_num, by have := hs.out; congr 1; omega, (hset _ (by have := hs.out; congr 1; omega)).out, gwn⟩
        case measure => simp [intOf]; omega
      · rw [if_neg hu] at hs; clear hc1 hc2; go_wp2; go_roundw
        case rel => exact ⟨k + 1, omg, by go_num, by have := hs.out; congr 1; omega, (hset _ (by have := hs.out; congr 1; omega)).out, gwn⟩
        case measure => simp [intOf]; omega
    · have hk9 : k = 64 := omg; subst hk9; have hl : tab 64 (fun i => if i < 64 then bit S i else 0) = tab 64 (bit S) := ql9 fun i hi => by rw [if_pos hi]
      rw [hl] at hown; clear hstep hc0 hcl hc1 hc2; go_wp2; go_ret; exact ⟨_, 64, rfl, hown, hb⟩
def upU (k : Nat) : Nat := [1, 4, 5, 7, 8, 40].getD k 0
def upP (k : Nat) : Nat := [1, 3, 19, 51, 179, 435, 1099511628211].getD k 0
theorem upP_succ (k : Nat) (h : k < 6) : upP k + 2 ^ upU k = upP (k + 1) := by
  have : ∀ k : Fin 6, upP k.val + 2 ^ upU k.val = upP (k.val + 1) := by decide
  exact this ⟨k, h⟩
theorem upU_le (k : Nat) (h : k < 6) : upU k ≤ 64 := by
  have : ∀ k : Fin 6, upU k.val ≤ 64 := by decide
  exact this ⟨k, h⟩
theorem refdbytes_any (A : Option Addr) (n c : Nat) (l : List UInt8) (w : World) (hl : RB w A n l) (hn : n ≤ maxLen) :
    Calls Tryz.prog 68 #[.slice A n c] w fun e w' => e = .returned (.int .i64 ((fnv l % 9223372036854775808 : Nat) : Int)) ∧ Below w.heap.size w w' := by
  unfold maxLen at hn; have hlen := hdd hl.1; have hfl := hdd (fnv_lt l); have d1 : un (-3750763034362895579) = fnv [] := by decide +kernel
  have hbits := fun w => qx1 (-3750763034362895579) w omg omg
  rw [d1] at hbits; have hnum := fun A c w => vh9 A c (fnv l % 9223372036854775808) w omg
  have hsg : sg (fnv l % 9223372036854775808) = ((fnv l % 9223372036854775808 : Nat) : Int) := by unfold sg; rw [if_pos omg]
  rw [hsg] at hnum; clear d1 hsg; generalize hz : fnv l = Z at *; have Hz := hdd hz; clear hz; go_enter Tryz.func68, Tryz.ntmps68; go_wp2_with ((go_at_call 145; (with_reducible refine (hbits _).mono ?_); rintro e w1 ⟨A1, c1, rfl, hown1, hb1⟩); replace hown1 := hown1.rebase (base' := w.heap.size) szz; replace hb1 := qa0 (a := w) (B := w.heap.size) gwn hb1 szz; have hb1s := hb1.size); go_loopw [3, 4] (fun x i wr => ∃ k X A c, k ≤ n ∧ i = .int .i64 (k : Nat) ∧ x = .slice A 64 c ∧ Hid (X = fnv (l.take k)) ∧ Ow iv wr w.heap.size 3 A 64 c (tab 64 (bit X)) ∧ Below w.heap.size w wr) (fun _ i _ => n - (intOf i).toNat)
  case atStart => exact ⟨0, _, A1, c1, Nat.zero_le _, rfl, rfl, rfl, hown1, hb1⟩
  case round =>
    obtain ⟨k, X, A2, c2, hk, rfl, rfl, hX, hown, hb⟩ := hrel; have hbs := hb.size
    by_cases hkn : k < n
    · obtain ⟨b, o, rfl, hb0, hc⟩ := hl.at_ hkn; have hc := (hb.cell (p := ⟨_, _, none⟩) hb0).trans hc; have hstep := hdd (fnv_take l k (by rw [hlen.out]; exact hkn)); have hy := qf9 l k; generalize qa2 l k = y at *; obtain ⟨g, rfl, hg, hgl⟩ := hown.addr omg; have hX2 : X < 18446744073709551616 := by rw [hX.out]; exact fnv_lt _
      have hnext : Hid (1099511628211 * (X ^^^ y) % 18446744073709551616 = fnv (l.take (k + 1))) := by
        show _ = _
        rw [hstep.out, hX.out]; rfl
      have hhigh : ∀ i, 8 ≤ i → bit (X ^^^ y) i = bit X i := fun i hi => by
        rw [vf1, qy9 (x := y) (n := 8) hy hi]; have := qp7 X i; omega
      have hxb : ∀ i, Hid ((bit X i + y / 2 ^ i % 2) % 2 = bit (X ^^^ y) i) := fun i => by
        show _ = _
        rw [vf1]; rfl
      generalize X ^^^ y = X2 at *; obtain ⟨wo, rfl⟩ : ∃ wo : World, wo = wr := ⟨_, rfl⟩; have hown' : Ow iv wo w.heap.size 3 (some ⟨g, 0, none⟩) 64 c2 (tab 64 (fun i => if i < 0 then bit X2 i else bit X i)) := by
        rwa [ql9 (g := bit X)]
        intro i hi; rw [if_neg omg]
      clear hown hstep; go_wp2; clear hc; go_loopw [5, 6] (fun nn kk wi => ∃ m e, m ≤ 8 ∧ kk = .int .i64 (m : Nat) ∧ Hid (e = y / 2 ^ m) ∧ e ≤ 255 ∧ nn = .int .i64 (e : Nat) ∧ Ow iv wi w.heap.size 3 (some ⟨g, 0, none⟩) 64 c2 (tab 64 (fun i => if i < m then bit X2 i else bit X i)) ∧ Below w.heap.size w wi) (fun _ kk _ => 8 - (intOf kk).toNat)
      case atStart => exact ⟨0, y, omg, rfl, by show y = y / 2 ^ 0; omega, omg, rfl, hown', hb⟩
      case round =>
        obtain ⟨m, e, hm, rfl, he, he2, rfl, hown, hb⟩ := hrel; have hbs := hb.size
        by_cases hm8 : m < 8
        · have hfree := hown.free m; have hset := fun v hv => hdd (hown.tab_set (f' := fun i => if i < m + 1 then bit X2 i else bit X i) m (bit X2 m) v omg hv (fun i hi => by
            by_cases h1 : i = m
            · subst h1; simp
            · by_cases h2 : i < m
              · simp [h1, h2, Nat.lt_succ_of_lt h2]
              · simp [h1, h2, show ¬ i < m + 1 from by omega]))
          have h0 : wr.cell? ⟨g, m, none⟩ = some (.int .i64 _) := hown.tab_cell omg; rw [if_neg omg] at h0; have hxm := hxb m; rw [← he.out] at hxm; have he3 : Hid (e / 2 = y / 2 ^ (m + 1)) := by
            show e / 2 = _
            rw [he.out, Nat.div_div_eq_div_mul, Nat.pow_succ]
          have bm := qp7 X m; generalize bit X m = xm at *; generalize bit X2 m = xm2 at *; clear hown hxb; go_wp2; have r1 : m + 1 ≤ 8 := omg; have r2 : Value.int .i64 ((m : Int) + 1) = .int .i64 ((m + 1 : Nat) : Int) := by go_num
          have r3 : Value.int .i64 ((e : Int) / 2) = .int .i64 ((e / 2 : Nat) : Int) := by go_num
          have r4 : e / 2 ≤ 255 := omg; have r6 := (hset (.int .i64 (((xm : Int) + (e : Int)) % 2)) (by have := hxm.out; congr 1; omega)).out; have r5 : 8 - (intOf (.int .i64 ((m : Int) + 1))).toNat < 8 - (intOf (.int .i64 (m : Int))).toNat := by simp [intOf]; omega
          exact ⟨⟨m + 1, e / 2, r1, r2, he3, r4, r3, r6, gwn⟩, r5⟩
        · have hm9 : m = 8 := omg; subst hm9; rw [ql9 (g := bit X2) (fun i hi => by
            by_cases h1 : i < 8
            · rw [if_pos h1]
            · rw [if_neg h1, hhigh i omg])] at hown
          clear hxb hhigh hown' hb1 hb1s hown1 hbits hnum; obtain ⟨wm, rfl⟩ : ∃ wm : World, wm = wr := ⟨_, rfl⟩; have hri : ∀ W : World, Below wm.heap.size wm W → RI W (some ⟨g, 0, none⟩) 64 (tab 64 (bit X2)) := fun W h => hown.rd.ri.below h nlr
          have hups : RI (wm.alloc (.cells #[.int .i64 1, .int .i64 4, .int .i64 5, .int .i64 7, .int .i64 8, .int .i64 40] 3)) (some ⟨wm.heap.size, 0, none⟩) 6 [1, 4, 5, 7, 8, 40] := (Rd.of_block (l := [1, 4, 5, 7, 8, 40]) (qb7 _ _ rfl) rfl).ri; go_wp2; go_loopw [7, 9] (fun yy kk wi => ∃ m A c, m ≤ 6 ∧ kk = .int .i64 (m : Nat) ∧ yy = .slice A 64 c ∧ Ow iv wi w.heap.size 3 A 64 c (tab 64 (bit (X2 * upP m))) ∧ Below (wm.heap.size + 1) (wm.alloc (.cells #[.int .i64 1, .int .i64 4, .int .i64 5, .int .i64 7, .int .i64 8, .int .i64 40] 3)) wi) (fun _ kk _ => 6 - (intOf kk).toNat)
          case atStart => exact ⟨0, some ⟨g, 0, none⟩, c2, omg, rfl, rfl, by show Ow iv _ _ _ _ _ _ (tab 64 (bit (X2 * 1))); rw [Nat.mul_one]; exact hown.below gwn nlr, Below.refl _ _⟩
          case round =>
            obtain ⟨m, A3, c3, hm, rfl, rfl, hown3, hb3⟩ := hrel; have hb3s := hb3.size; simp at hb3s; have hbw : Below wm.heap.size wm wr := qa0 (a := wm) (B := wm.heap.size) (W := wm.alloc (.cells #[.int .i64 1, .int .i64 4, .int .i64 5, .int .i64 7, .int .i64 8, .int .i64 40] 3)) gwn hb3 omg
            by_cases hm6 : m < 6
            · have hxr := hri _ hbw; have hu := (hups.below hb3 smp); obtain ⟨b5, o5, hA5, hb5, hc5⟩ := hu.at_ hm6; injection hA5 with hA5; injection hA5 with h1 h2 _; subst h1 h2; rw [Nat.zero_add] at hc5; have hup : qd5 [1, 4, 5, 7, 8, 40] m = ((upU m : Nat) : Int) := by
                have : ∀ m : Fin 6, qd5 [1, 4, 5, 7, 8, 40] m.val = ((upU m.val : Nat) : Int) := by decide
                exact this ⟨m, hm6⟩
              rw [hup] at hc5; have hsum := fun A c W hA => bsum_any A (some ⟨g, 0, none⟩) c c2 (upU m) (X2 * upP m) X2 W hA
              rw [← Nat.mul_add, upP_succ m hm6] at hsum; have hule := upU_le m hm6; go_wp2_with ((go_at_call 146; (with_reducible refine (hsum _ _ _ hown3.rd.ri hxr hule).mono ?_); rintro e w6 ⟨A6, c6, rfl, hown6, hb6⟩)); go_roundw
              case rel =>
                have q1 : m + 1 ≤ 6 := omg; have q2 : Value.int .i64 ((m : Int) + 1) = .int .i64 ((m + 1 : Nat) : Int) := by go_num
                have q3 := hown6.rebase (base' := w.heap.size) omg; have q4 := qa0 hb3 hb6 omg; exact ⟨_, _, _, _, _, _, _, _, _, _, _, _, _, ⟨m + 1, A6, c6, q1, q2, rfl, q3, q4⟩, rfl⟩
              case measure => simp [intOf]; omega
            · have hm9 : m = 6 := omg; subst hm9; have hT : tab 64 (bit (X2 * upP 6)) = tab 64 (bit (1099511628211 * X2 % 18446744073709551616)) := ql9 fun i hi => by
                rw [show (18446744073709551616 : Nat) = 2 ^ 64 from rfl, bit_mod _ _ _ hi, Nat.mul_comm]; rfl
              rw [hT] at hown3; go_wp2; go_roundw
              case rel => exact ⟨k + 1, _, A3, c3, omg, by go_num, rfl, hnext, hown3, qa0 hb hbw omg⟩
              case measure => simp [intOf]; omega
    · have hkk : k = n := omg; have hXZ : Hid (X = Z) := by
        show _ = _
        rw [hX.out, ← Hz.out, hkk, ← hlen.out, List.take_length]
      have hZ := hfl.out; clear hkk; obtain ⟨g, rfl, hg, hgl⟩ := hown.addr omg; have hfree := hown.free 63; have h0 : wr.cell? ⟨g, 63, none⟩ = some (.int .i64 _) := hown.tab_cell omg; have hset := hown.tab_set (f' := bit (X % 9223372036854775808)) 63 0 (.int .i64 0) omg rfl (fun i hi => by
        by_cases h1 : i = 63
        · subst h1; rw [if_pos rfl, qy9 (n := 63) omg nlr]
        · rw [if_neg h1, show (9223372036854775808 : Nat) = 2 ^ 63 from rfl, bit_mod _ _ _ omg])
      rw [hXZ.out] at hset; clear hown hbits; go_wp2_with ((go_at_call 147; (with_reducible refine (hnum _ _ _ hset.rd.ri).mono ?_); rintro e w7 ⟨rfl, rfl⟩)); go_ret; exact ⟨rfl, gwn⟩
end Go.Proofs.YtpmkpckldnnigaaGreat
