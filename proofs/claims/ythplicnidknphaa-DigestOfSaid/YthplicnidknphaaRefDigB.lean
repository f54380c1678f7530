/- Contracts of the reference of digest: the digest of bytes. -/
import Derived.Test.YthplicnidknphaaRefDigA
namespace Go.Proofs.Ythplicnidknphaa
open Go.RowKit

def upU (k : Nat) : Nat := [1, 4, 5, 7, 8, 40].getD k 0
def upP (k : Nat) : Nat := [1, 3, 19, 51, 179, 435, 1099511628211].getD k 0
theorem upP_succ (k : Nat) (h : k < 6) : upP k + 2 ^ upU k = upP (k + 1) := by
  have : ∀ k : Fin 6, upP k.val + 2 ^ upU k.val = upP (k.val + 1) := by decide
  exact this ⟨k, h⟩
theorem upU_le (k : Nat) (h : k < 6) : upU k ≤ 64 := by
  have : ∀ k : Fin 6, upU k.val ≤ 64 := by decide
  exact this ⟨k, h⟩

set_option maxRecDepth 100000 in
theorem refdbytes_any (A : Option Addr) (n c : Nat) (l : List UInt8) (w : World) (hl : RB w A n l) (hn : n ≤ maxLen) :
    Calls Try.prog 51 #[.slice A n c] w fun e w' => e = .returned (.int .i64 ((fnv l % 9223372036854775808 : Nat) : Int)) ∧ Below w.heap.size w w' := by
  unfold maxLen at hn
  have hlen := Lib.hid hl.1
  have hfl := Lib.hid (fnv_lt l)
  have d1 : un (-3750763034362895579) = fnv [] := by decide +kernel
  have hbits := fun w => allbits_any (-3750763034362895579) w (by omega) (by omega)
  rw [d1] at hbits
  have hnum := fun A c w => number_any A c (fnv l % 9223372036854775808) w (by omega)
  have hsg : sg (fnv l % 9223372036854775808) = ((fnv l % 9223372036854775808 : Nat) : Int) := by unfold sg; rw [if_pos (by omega)]
  rw [hsg] at hnum
  clear d1 hsg
  generalize hz : fnv l = Z at *
  have Hz := Lib.hid hz
  clear hz
  go_enter Try.func51, Try.ntmps51
  go_wp2_with ((go_at_call 102; (with_reducible refine (hbits _).mono ?_); rintro e w1 ⟨A1, c1, rfl, hown1, hb1⟩); replace hown1 := hown1.rebase (base' := w.heap.size) (by first | omega | (simp; done) | (simp; omega)); replace hb1 := below_then' (a := w) (B := w.heap.size) (by (repeat' (first | (with_reducible exact Below.refl _ _) | (with_reducible assumption) | (with_reducible refine Below.drew ?_) | (with_reducible refine below_drewN ?_ _) | (with_reducible refine Below.alloc ?_ ?_ _) | (with_reducible refine Below.setCell ?_ ?_ _) | omega | (simp; done) | (simp; omega)))) hb1 (by first | omega | (simp; done) | (simp; omega)); have hb1s := hb1.size)
  go_loopw [3, 4] (fun x i wr => ∃ k X A c, k ≤ n ∧ i = .int .i64 (k : Nat) ∧ x = .slice A 64 c ∧ Hid (X = fnv (l.take k)) ∧ Ow iv wr w.heap.size 3 A 64 c (tab 64 (bit X)) ∧ Below w.heap.size w wr) (fun _ i _ => n - (intOf i).toNat)
  case atStart => exact ⟨0, _, A1, c1, Nat.zero_le _, rfl, rfl, rfl, hown1, hb1⟩
  case round =>
    obtain ⟨k, X, A2, c2, hk, rfl, rfl, hX, hown, hb⟩ := hrel
    have hbs := hb.size
    by_cases hkn : k < n
    · obtain ⟨b, o, rfl, hb0, hc⟩ := hl.at_ hkn
      have hc := (hb.cell (p := ⟨_, _, none⟩) hb0).trans hc
      have hstep := Lib.hid (fnv_take l k (by rw [hlen.out]; exact hkn))
      have hy := byteAt_lt l k
      generalize byteAt l k = y at *
      obtain ⟨g, rfl, hg, hgl⟩ := hown.addr (by omega)
      have hX2 : X < 18446744073709551616 := by rw [hX.out]; exact fnv_lt _
      have hnext : Hid (1099511628211 * (X ^^^ y) % 18446744073709551616 = fnv (l.take (k + 1))) := by
        show _ = _
        rw [hstep.out, hX.out]; rfl
      have hhigh : ∀ i, 8 ≤ i → bit (X ^^^ y) i = bit X i := fun i hi => by
        rw [bit_xor, bit_high (x := y) (n := 8) hy hi]; have := bit_le X i; omega
      have hxb : ∀ i, Hid ((bit X i + y / 2 ^ i % 2) % 2 = bit (X ^^^ y) i) := fun i => by
        show _ = _
        rw [bit_xor]; rfl
      generalize X ^^^ y = X2 at *
      obtain ⟨wo, rfl⟩ : ∃ wo : World, wo = wr := ⟨_, rfl⟩
      have hown' : Ow iv wo w.heap.size 3 (some ⟨g, 0, none⟩) 64 c2 (tab 64 (fun i => if i < 0 then bit X2 i else bit X i)) := by
        rwa [tab_congr (g := bit X)]
        intro i hi
        rw [if_neg (by omega)]
      clear hown hstep
      go_wp2
      clear hc
      go_loopw [5, 6] (fun nn kk wi => ∃ m e, m ≤ 8 ∧ kk = .int .i64 (m : Nat) ∧ Hid (e = y / 2 ^ m) ∧ e ≤ 255 ∧ nn = .int .i64 (e : Nat) ∧ Ow iv wi w.heap.size 3 (some ⟨g, 0, none⟩) 64 c2 (tab 64 (fun i => if i < m then bit X2 i else bit X i)) ∧ Below w.heap.size w wi) (fun _ kk _ => 8 - (intOf kk).toNat)
      case atStart => exact ⟨0, y, by omega, rfl, by show y = y / 2 ^ 0; omega, by omega, rfl, hown', hb⟩
      case round =>
        obtain ⟨m, e, hm, rfl, he, he2, rfl, hown, hb⟩ := hrel
        have hbs := hb.size
        by_cases hm8 : m < 8
        · have hfree := hown.free m
          have hset := fun v hv => Lib.hid (hown.tab_set (f' := fun i => if i < m + 1 then bit X2 i else bit X i) m (bit X2 m) v (by omega) hv (fun i hi => by
            by_cases h1 : i = m
            · subst h1; simp
            · by_cases h2 : i < m
              · simp [h1, h2, Nat.lt_succ_of_lt h2]
              · simp [h1, h2, show ¬ i < m + 1 from by omega]))
          have h0 : wr.cell? ⟨g, m, none⟩ = some (.int .i64 _) := hown.tab_cell (by omega)
          rw [if_neg (by omega)] at h0
          have hxm := hxb m
          rw [← he.out] at hxm
          have he3 : Hid (e / 2 = y / 2 ^ (m + 1)) := by
            show e / 2 = _
            rw [he.out, Nat.div_div_eq_div_mul, Nat.pow_succ]
          have bm := bit_le X m
          generalize bit X m = xm at *
          generalize bit X2 m = xm2 at *
          clear hown hxb
          go_wp2
          have r1 : m + 1 ≤ 8 := by omega
          have r2 : Value.int .i64 ((m : Int) + 1) = .int .i64 ((m + 1 : Nat) : Int) := by go_num
          have r3 : Value.int .i64 ((e : Int) / 2) = .int .i64 ((e / 2 : Nat) : Int) := by go_num
          have r4 : e / 2 ≤ 255 := by omega
          have r6 := (hset (.int .i64 (((xm : Int) + (e : Int)) % 2)) (by have := hxm.out; congr 1; omega)).out
          have r5 : 8 - (intOf (.int .i64 ((m : Int) + 1))).toNat < 8 - (intOf (.int .i64 (m : Int))).toNat := by simp [intOf]; omega
          exact ⟨⟨m + 1, e / 2, r1, r2, he3, r4, r3, r6, (by (repeat' (first | (with_reducible exact Below.refl _ _) | (with_reducible assumption) | (with_reducible refine Below.drew ?_) | (with_reducible refine below_drewN ?_ _) | (with_reducible refine Below.alloc ?_ ?_ _) | (with_reducible refine Below.setCell ?_ ?_ _) | omega | (simp; done) | (simp; omega))))⟩, r5⟩
        · have hm9 : m = 8 := by omega
          subst hm9
          rw [tab_congr (g := bit X2) (fun i hi => by
            by_cases h1 : i < 8
            · rw [if_pos h1]
            · rw [if_neg h1, hhigh i (by omega)])] at hown
          clear hxb hhigh hown' hb1 hb1s hown1 hbits hnum
          obtain ⟨wm, rfl⟩ : ∃ wm : World, wm = wr := ⟨_, rfl⟩
          have hri : ∀ W : World, Below wm.heap.size wm W → RI W (some ⟨g, 0, none⟩) 64 (tab 64 (bit X2)) := fun W h => hown.rd.ri.below h (Nat.le_refl _)
          have hups : RI (wm.alloc (.cells #[.int .i64 1, .int .i64 4, .int .i64 5, .int .i64 7, .int .i64 8, .int .i64 40] 3)) (some ⟨wm.heap.size, 0, none⟩) 6 [1, 4, 5, 7, 8, 40] := (Rd.of_block (l := [1, 4, 5, 7, 8, 40]) (heap_top _ _ rfl) rfl).ri
          go_wp2
          go_loopw [7, 9] (fun yy kk wi => ∃ m A c, m ≤ 6 ∧ kk = .int .i64 (m : Nat) ∧ yy = .slice A 64 c ∧ Ow iv wi w.heap.size 3 A 64 c (tab 64 (bit (X2 * upP m))) ∧ Below (wm.heap.size + 1) (wm.alloc (.cells #[.int .i64 1, .int .i64 4, .int .i64 5, .int .i64 7, .int .i64 8, .int .i64 40] 3)) wi) (fun _ kk _ => 6 - (intOf kk).toNat)
          case atStart => exact ⟨0, some ⟨g, 0, none⟩, c2, by omega, rfl, rfl, by show Ow iv _ _ _ _ _ _ (tab 64 (bit (X2 * 1))); rw [Nat.mul_one]; exact hown.below (by (repeat' (first | (with_reducible exact Below.refl _ _) | (with_reducible assumption) | (with_reducible refine Below.drew ?_) | (with_reducible refine below_drewN ?_ _) | (with_reducible refine Below.alloc ?_ ?_ _) | (with_reducible refine Below.setCell ?_ ?_ _) | omega | (simp; done) | (simp; omega)))) (Nat.le_refl _), Below.refl _ _⟩
          case round =>
            obtain ⟨m, A3, c3, hm, rfl, rfl, hown3, hb3⟩ := hrel
            have hb3s := hb3.size
            simp at hb3s
            have hbw : Below wm.heap.size wm wr := below_then' (a := wm) (B := wm.heap.size) (W := wm.alloc (.cells #[.int .i64 1, .int .i64 4, .int .i64 5, .int .i64 7, .int .i64 8, .int .i64 40] 3)) (by (repeat' (first | (with_reducible exact Below.refl _ _) | (with_reducible assumption) | (with_reducible refine Below.drew ?_) | (with_reducible refine below_drewN ?_ _) | (with_reducible refine Below.alloc ?_ ?_ _) | (with_reducible refine Below.setCell ?_ ?_ _) | omega | (simp; done) | (simp; omega)))) hb3 (by omega)
            by_cases hm6 : m < 6
            · have hxr := hri _ hbw
              have hu := (hups.below hb3 (by simp))
              obtain ⟨b5, o5, hA5, hb5, hc5⟩ := hu.at_ hm6
              injection hA5 with hA5
              injection hA5 with h1 h2 _
              subst h1 h2
              rw [Nat.zero_add] at hc5
              have hup : intAt [1, 4, 5, 7, 8, 40] m = ((upU m : Nat) : Int) := by
                have : ∀ m : Fin 6, intAt [1, 4, 5, 7, 8, 40] m.val = ((upU m.val : Nat) : Int) := by decide
                exact this ⟨m, hm6⟩
              rw [hup] at hc5
              have hsum := fun A c W hA => bsum_any A (some ⟨g, 0, none⟩) c c2 (upU m) (X2 * upP m) X2 W hA
              rw [← Nat.mul_add, upP_succ m hm6] at hsum
              have hule := upU_le m hm6
              go_wp2_with ((go_at_call 103; (with_reducible refine (hsum _ _ _ hown3.rd.ri hxr hule).mono ?_); rintro e w6 ⟨A6, c6, rfl, hown6, hb6⟩))
              go_roundw
              case rel =>
                have q1 : m + 1 ≤ 6 := by omega
                have q2 : Value.int .i64 ((m : Int) + 1) = .int .i64 ((m + 1 : Nat) : Int) := by go_num
                have q3 := hown6.rebase (base' := w.heap.size) (by omega)
                have q4 := below_then' hb3 hb6 (by omega)
                exact ⟨_, _, _, _, _, _, _, _, _, _, _, _, _, ⟨m + 1, A6, c6, q1, q2, rfl, q3, q4⟩, rfl⟩
              case measure => simp [intOf]; omega
            · have hm9 : m = 6 := by omega
              subst hm9
              have hT : tab 64 (bit (X2 * upP 6)) = tab 64 (bit (1099511628211 * X2 % 18446744073709551616)) := tab_congr fun i hi => by
                rw [show (18446744073709551616 : Nat) = 2 ^ 64 from rfl, bit_mod _ _ _ hi, Nat.mul_comm]; rfl
              rw [hT] at hown3
              go_wp2
              go_roundw
              case rel => exact ⟨k + 1, _, A3, c3, by omega, by go_num, rfl, hnext, hown3, below_then' hb hbw (by omega)⟩
              case measure => simp [intOf]; omega
    · have hkk : k = n := by omega
      have hXZ : Hid (X = Z) := by
        show _ = _
        rw [hX.out, ← Hz.out, hkk, ← hlen.out, List.take_length]
      have hZ := hfl.out
      clear hkk
      obtain ⟨g, rfl, hg, hgl⟩ := hown.addr (by omega)
      have hfree := hown.free 63
      have h0 : wr.cell? ⟨g, 63, none⟩ = some (.int .i64 _) := hown.tab_cell (by omega)
      have hset := hown.tab_set (f' := bit (X % 9223372036854775808)) 63 0 (.int .i64 0) (by omega) rfl (fun i hi => by
        by_cases h1 : i = 63
        · subst h1; rw [if_pos rfl, bit_high (n := 63) (by omega) (Nat.le_refl _)]
        · rw [if_neg h1, show (9223372036854775808 : Nat) = 2 ^ 63 from rfl, bit_mod _ _ _ (by omega)])
      rw [hXZ.out] at hset
      clear hown hbits
      go_wp2_with ((go_at_call 104; (with_reducible refine (hnum _ _ _ hset.rd.ri).mono ?_); rintro e w7 ⟨rfl, rfl⟩))
      go_ret
      exact ⟨rfl, (by (repeat' (first | (with_reducible exact Below.refl _ _) | (with_reducible assumption) | (with_reducible refine Below.drew ?_) | (with_reducible refine below_drewN ?_ _) | (with_reducible refine Below.alloc ?_ ?_ _) | (with_reducible refine Below.setCell ?_ ?_ _) | omega | (simp; done) | (simp; omega))))⟩
end Go.Proofs.Ythplicnidknphaa
