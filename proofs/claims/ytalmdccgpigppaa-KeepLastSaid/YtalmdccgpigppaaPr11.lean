/- Parts: RefNumE, RowB, RowC, RefNumF, Zag, RowD, StateD. -/
import Derived.Test.YtalmdccgpigppaaPr10
import Derived.Test.YtalmdccgpigppaaPr05
import Derived.Test.YtalmdccgpigppaaPr01
import Derived.Test.YtalmdccgpigppaaPr03
import Derived.Test.YtalmdccgpigppaaPr04
import Derived.Deep.RegionHeld3
import Derived.Deep.RegionLaw
import Derived.Deep.AppendLies
import Derived.Test.YtalmdccgpigppaaPr09
import Derived.Test.YtalmdccgpigppaaPr08
namespace Go.Proofs.Ytalmdccgpigppaa
open Go.RowKit

theorem bit_part (Z i k : Nat) (hk : k < 7) : bit Z (7 * i + k) = Z / 128 ^ i % 128 / 2 ^ k % 2 := by
  have e : (128 : Nat) = 2 ^ k * 2 ^ (7 - k) := by rw [← Nat.pow_add, show k + (7 - k) = 7 from by omega]
  have e' : (128 : Nat) ^ i = 2 ^ (7 * i) := by rw [Nat.pow_mul]
  unfold bit
  rw [Nat.pow_add, ← Nat.div_div_eq_div_mul, ← e']
  generalize Z / 128 ^ i = V
  rw [e, Nat.mod_mul_right_div_self, show 7 - k = (6 - k) + 1 from by omega, Nat.pow_succ, Nat.mod_mul_left_mod]

set_option maxRecDepth 100000 in
set_option maxHeartbeats 1000000 in
theorem refzig_any (n : Int) (w : World) (h0 : -9223372036854775808 ≤ n) (h1 : n ≤ 9223372036854775807) :
    Calls Try.prog 122 #[.int .i64 n] w fun e w' => ∃ A c, e = .returned (.slice A (digL 9 (zz n)).length c) ∧ OB w' w.heap.size 5 A (digL 9 (zz n)).length c (digL 9 (zz n)) ∧ Below w.heap.size w w' := by
  have hturn := fun w => turned_any n w h0 h1
  have hZ := zz_lt h0 h1
  generalize zz n = Z at *
  have hpos := Lib.hid (digL_pos 9 Z (by omega))
  have htab := Lib.hid (digL_tab 9 Z (by omega))
  have hlen := digL_len 9 Z
  generalize digL 9 Z = D at *
  have HM := Lib.hid (rfl : D.length = D.length)
  obtain ⟨M, hM⟩ : ∃ M, D.length = M := ⟨_, rfl⟩
  rw [hM] at hpos htab hlen ⊢
  clear hM HM
  go_enter Try.func122, Try.ntmps122
  go_wp2_with (go_at_call 136; (with_reducible refine (hturn _).mono ?_); rintro e w1 ⟨B, d, rfl, hownb, hb1⟩)
  have hb1s := hb1.size
  obtain ⟨gb, rfl, _, hgb⟩ := hownb.addr (by omega)
  have hcell : ∀ k, k < 64 → Hid (w1.cell? ⟨gb, k, none⟩ = some (.int .i64 (bit Z k : Nat))) := fun k hk => hownb.tab_cell hk
  clear hturn hownb
  go_loopw [4, 5] (fun v i wr => ∃ k A c, k ≤ 10 ∧ i = .int .i64 (k : Nat) ∧ v = .slice A k c ∧ OB wr w1.heap.size 5 A k c (tabB k (fun i => Z / 128 ^ i % 128)) ∧ Below w1.heap.size w1 wr) (fun _ i _ => 10 - (intOf i).toNat)
  case atStart => exact ⟨0, none, 0, by omega, rfl, rfl, Ow.nil _ _ _ _, Below.refl _ _⟩
  case round =>
    obtain ⟨k, A, c, hk, rfl, rfl, hown, hb⟩ := hrel
    have hbs := hb.size
    by_cases hk8 : k < 10
    · go_wp2
      obtain ⟨wo, rfl⟩ : ∃ wo : World, wo = wr := ⟨_, rfl⟩
      go_loop [6, 7] (fun cc jj => ∃ m x, m ≤ 7 ∧ jj = .int .i64 (6 - (m : Nat)) ∧ cc = .int .i64 (x : Nat) ∧ Hid (x = Z / 128 ^ k % 128 / 2 ^ (7 - m)) ∧ x ≤ 127) (fun _ jj => (intOf jj + 1).toNat)
      case atStart => exact ⟨0, 0, by omega, rfl, rfl, by show 0 = _; omega, by omega⟩
      case round =>
        obtain ⟨m, x, hm, rfl, rfl, hx, hx2⟩ := hrel
        by_cases hm8 : m < 7
        · have hx3 : Hid (2 * x + bit Z (7 * k + (6 - m)) = Z / 128 ^ k % 128 / 2 ^ (7 - (m + 1))) := by
            show _ = _
            rw [hx.out, bit_part Z k (6 - m) (by omega), show 7 - m = (6 - m) + 1 from by omega, show 7 - (m + 1) = 6 - m from by omega, Nat.pow_succ, ← Nat.div_div_eq_div_mul]
            omega
          have hx4 : 2 * x + bit Z (7 * k + (6 - m)) ≤ 127 := by
            rw [hx3.out]
            have := Nat.div_le_self (Z / 128 ^ k % 128) (2 ^ (7 - (m + 1)))
            omega
          by_cases h64 : 7 * k + (6 - m) < 64
          · have hc := (hb.cell (p := ⟨gb, 7 * k + (6 - m), none⟩) hgb).trans (hcell (7 * k + (6 - m)) h64).out
            have hd : decide (7 * (k : Int) + (6 - (m : Int)) < 64) = true := by rw [decide_eq_true_eq]; omega
            generalize bit Z (7 * k + (6 - m)) = y at *
            clear hcell
            go_wp2
            go_round
            case rel => exact ⟨m + 1, 2 * x + y, by omega, by go_num, by go_num, hx3, hx4⟩
            case measure => simp [intOf]; omega
          · have hd : decide (7 * (k : Int) + (6 - (m : Int)) < 64) = false := by rw [decide_eq_false_iff_not]; omega
            rw [bit_high (n := 64) hZ (by omega)] at hx3
            have hx0 : Hid (x = Z / 128 ^ k % 128 / 2 ^ (7 - (m + 1))) := by
              have h1 : x = 0 := by
                rw [hx.out]
                have hbig : Z / 128 ^ k % 128 < 2 ^ (7 - m) := by
                  have hk9 : k = 9 := by omega
                  subst hk9
                  have : Z / 128 ^ 9 ≤ 1 := by omega
                  have h2 : 2 ^ 1 ≤ 2 ^ (7 - m) := Nat.pow_le_pow_right (by omega) (by omega)
                  omega
                exact Nat.div_eq_of_lt hbig
              have h2 := hx3.out
              show x = _
              rw [← h2]; omega
            clear hcell hx3
            go_wp2
            go_round
            case rel => exact ⟨m + 1, x, by omega, by go_num, rfl, hx0, by omega⟩
            case measure => simp [intOf]; omega
        · have hm9 : m = 7 := by omega
          subst hm9
          have hx3 : Hid (tabB k (fun i => Z / 128 ^ i % 128) ++ [UInt8.ofNat x] = tabB (k + 1) (fun i => Z / 128 ^ i % 128)) := by
            show _ = _
            rw [← tabB_succ]; congr 3; rw [hx.out]; simp
          have hbv := Lib.hid (bv_ofNat (v := x) (by omega))
          clear hcell hx
          go_wp2_with (at_builtin; refine wpList_app rfl rfl elemU8 bv_one (s := .tmp 34) (N := k + 1) (L := tabB (k + 1) (fun i => Z / 128 ^ i % 128)) rfl (hown.below (b := wo.heap.size) (by (repeat' (first | (with_reducible exact Below.refl _ _) | (with_reducible assumption) | (with_reducible refine Below.drew ?_) | (with_reducible refine below_drewN ?_ _) | (with_reducible refine Below.alloc ?_ ?_ _) | (with_reducible refine Below.setCell ?_ ?_ _) | omega | (simp; done) | (simp; omega)))) (by first | omega | (simp; done) | (simp; omega))) rfl (k := [UInt8.ofNat x]) (Rd.of_block (l := [UInt8.ofNat x]) (heap_top _ _ (by simp)) (congrArg (fun x => [x]) hbv.out.symm)) rfl hx3.out (by unfold maxLen; omega) (by omega) (by first | omega | (simp; done) | (simp; omega)) ?_; intro A5 c5 w5 hown5 hg5 hat5 hb5)
          replace hb5 := below_then' (a := w1) (B := w1.heap.size) (by (repeat' (first | (with_reducible exact Below.refl _ _) | (with_reducible assumption) | (with_reducible refine Below.drew ?_) | (with_reducible refine below_drewN ?_ _) | (with_reducible refine Below.alloc ?_ ?_ _) | (with_reducible refine Below.setCell ?_ ?_ _) | omega | (simp; done) | (simp; omega)))) hb5 (by first | omega | (simp; done) | (simp; omega)); have hb5s := hb5.size
          go_roundw
          case rel => exact ⟨k + 1, A5, c5, by omega, by go_num, rfl, hown5, hb5⟩
          case measure => simp [intOf]; omega
    · have hk9 : k = 10 := by omega
      subst hk9
      obtain ⟨g, rfl, hgb, _⟩ := hown.addr (by omega)
      clear hcell
      go_wp2
      obtain ⟨wo, rfl⟩ : ∃ wo : World, wo = wr := ⟨_, rfl⟩
      go_loop [4] (fun vv => ∃ j, M ≤ j ∧ j ≤ 10 ∧ vv = .slice (some ⟨g, 0, none⟩) j c ∧ Hid (Z < 128 ^ j)) (fun vv => lenIn vv)
      case atStart => exact ⟨10, by omega, by omega, rfl, by show Z < 128 ^ 10; omega⟩
      case round =>
        obtain ⟨j, hj, hj10, rfl, hZj⟩ := hrel
        have hstop : Hid ((1 < j ∧ Z / 128 ^ (j - 1) % 128 ≠ 0) ∨ j = 1 → j = M) := by
          intro h
          have h1 := hpos.out
          rcases Nat.lt_or_ge M j with hlt | hge
          · exfalso
            rcases h with ⟨_, hne⟩ | h
            · have h2 : 128 ^ M ≤ 128 ^ (j - 1) := Nat.pow_le_pow_right (by omega) (by omega)
              rw [Nat.div_eq_of_lt (by omega)] at hne
              exact hne rfl
            · omega
          · omega
        have hend : ∀ (K : Prop), (j = M → K) → ((1 < j ∧ Z / 128 ^ (j - 1) % 128 ≠ 0) ∨ j = 1) → K := fun K h1 h2 => h1 (hstop.out h2)
        have Hend := Lib.hid hend
        clear hend hstop
        have hcase : (1 < j ∧ Z / 128 ^ (j - 1) % 128 = 0) ∨ ((1 < j ∧ Z / 128 ^ (j - 1) % 128 ≠ 0) ∨ j = 1) := by omega
        have hload : 1 < j → wo.cell? ⟨g, j - 1, none⟩ = some (.int .u8 ((Z / 128 ^ (j - 1) % 128 : Nat) : Int)) := by
          intro hj1
          obtain ⟨b1, o1, hA, _, hc⟩ := hown.rd.rb.at_ (k := j - 1) (by omega)
          injection hA with hA
          injection hA with e1 e2 _
          subst e1 e2
          rw [Nat.zero_add, tabB_at _ (by omega) (by omega)] at hc
          exact hc
        have Hload := Lib.hid hload
        clear hload
        rcases hcase with ⟨hj1, hq⟩ | hex
        · have hc := Hload.out hj1
          rw [hq] at hc
          have hcut : ∀ W : World, (Instr.slice 26 (.slice (some ⟨g, 0, none⟩) j c) none (some (.int .i64 ((j : Int) - 1))) none).run Try.prog W = .ok (.slice (some ⟨g, 0, none⟩) (j - 1) c) W := fun W => by
            have := run_cut_to elemU8 (some ⟨g, 0, none⟩) j c (j - 1) (by have := hown.cap; omega) W
            rwa [show (((j - 1 : Nat)) : Int) = (j : Int) - 1 from by omega] at this
          have hZ2 : Z < 128 ^ (j - 1) := by
            have h2 := hZj.out
            obtain ⟨q, rfl⟩ : ∃ q, j = q + 1 := ⟨j - 1, by omega⟩
            rw [Nat.add_sub_cancel] at hq ⊢
            rw [Nat.pow_succ] at h2
            have h3 : Z / 128 ^ q < 128 := by
              rw [Nat.div_lt_iff_lt_mul (Nat.pow_pos (by omega))]; omega
            have h4 : Z / 128 ^ q = 0 := by generalize Z / 128 ^ q = V at *; omega
            rcases Nat.lt_or_ge Z (128 ^ q) with h | h
            · exact h
            · have := Nat.div_pos h (Nat.pow_pos (n := q) (show 0 < 128 by omega)); omega
          have hM2 : M ≤ j - 1 := by
            rcases Nat.lt_or_ge M j with h | h
            · omega
            · exfalso
              have hMj : M = j := by omega
              have := hpos.out.2
              rw [hMj] at this
              omega
          have HZ2 := Lib.hid hZ2
          clear hZ2 hq Hend
          go_wp2
          go_round
          case rel => exact ⟨j - 1, hM2, by omega, rfl, HZ2⟩
          case measure => simp [lenIn]; omega
        · refine Hend.out _ (fun hjM => ?_) hex
          subst hjM
          have hown2 : OB wo w1.heap.size 5 (some ⟨g, 0, none⟩) j c (tabB j (fun i => if i < 0 then Z / 128 ^ i % 128 + 128 else Z / 128 ^ i % 128)) := by
            have := hown.shorter hj10
            rw [tabB_take _ hj10] at this
            simpa using this
          have hgo : ((1 < j) ∧ ∃ q, wo.cell? ⟨g, j - 1, none⟩ = some (.int .u8 ((q : Nat) : Int)) ∧ (((q : Nat) : Int) == 0) = false) ∨ decide ((1 : Int) < (j : Int)) = false := by
            rcases hex with ⟨h1, h2⟩ | h1
            · exact .inl ⟨h1, _, Hload.out h1, by rw [beq_eq_false_iff_ne]; omega⟩
            · exact .inr (by rw [decide_eq_false_iff_not]; omega)
          clear hex Hend Hload hpos hown hZj
          rcases hgo with ⟨hj1, q, hc, hq⟩ | hj1
          all_goals
            go_wp2
            go_loopw [8] (fun kk wr => ∃ k, k + 1 ≤ j ∧ kk = .int .i64 (k : Nat) ∧ OB wr w1.heap.size 5 (some ⟨g, 0, none⟩) j c (tabB j (fun i => if i < k then Z / 128 ^ i % 128 + 128 else Z / 128 ^ i % 128)) ∧ Below w1.heap.size w1 wr) (fun kk _ => j - (intOf kk).toNat)
            case atStart => exact ⟨0, by omega, rfl, hown2, hb⟩
            case round =>
              obtain ⟨k, hk, rfl, hown, hb⟩ := hrel
              have hbs := hb.size
              by_cases hkj : k + 1 < j
              · obtain ⟨b1, o1, hA, _, hc⟩ := hown.rd.rb.at_ (k := k) (by omega)
                injection hA with hA
                injection hA with e1 e2 _
                subst e1 e2
                rw [Nat.zero_add, tabB_at _ (by omega) (by simp; omega)] at hc
                simp only [Nat.lt_irrefl, if_false] at hc
                have hfree := hown.free k
                have hset := fun u hu => Lib.hid (hown.tabB_set (f' := fun i => if i < k + 1 then Z / 128 ^ i % 128 + 128 else Z / 128 ^ i % 128) k (Z / 128 ^ k % 128 + 128) u (by omega) (by omega) hu (fun i hi => by
                  by_cases h1 : i = k
                  · subst h1; simp
                  · by_cases h2 : i < k
                    · simp [h1, h2, Nat.lt_succ_of_lt h2]
                    · simp [h1, h2, show ¬ i < k + 1 from by omega]))
                have hlt := Nat.mod_lt (Z / 128 ^ k) (show 0 < 128 by omega)
                generalize Z / 128 ^ k % 128 = y at hc hset hlt
                clear hown hown2
                go_wp2
                go_roundw
                case rel => exact ⟨k + 1, by omega, by go_num, (hset _ (by first | rfl | (congr 1; omega))).out, (by (repeat' (first | (with_reducible exact Below.refl _ _) | (with_reducible assumption) | (with_reducible refine Below.drew ?_) | (with_reducible refine below_drewN ?_ _) | (with_reducible refine Below.alloc ?_ ?_ _) | (with_reducible refine Below.setCell ?_ ?_ _) | omega | (simp; done) | (simp; omega))))⟩
                case measure => simp [intOf]; omega
              · have hD : tabB j (fun i => if i < k then Z / 128 ^ i % 128 + 128 else Z / 128 ^ i % 128) = D := by
                  rw [htab.out]
                  exact tabB_congr (fun i hi => by
                    have : (i < k) = (i + 1 < j) := by simp; omega
                    simp [this])
                rw [hD] at hown
                clear hD hown2
                go_wp2
                go_ret
                exact ⟨_, c, rfl, hown.rebase hb1s, below_then' hb1 hb hb1s⟩
end Go.Proofs.Ytalmdccgpigppaa
namespace Go.Proofs.Ytalmdccgpigppaa
open Go.RowKit

end Go.Proofs.Ytalmdccgpigppaa
namespace Go.Proofs.Ytalmdccgpigppaa
open Go.RowKit

end Go.Proofs.Ytalmdccgpigppaa
namespace Go.Proofs.Ytalmdccgpigppaa
open Go.RowKit

end Go.Proofs.Ytalmdccgpigppaa
namespace Go.Proofs.Ytalmdccgpigppaa
open Go.RowKit

end Go.Proofs.Ytalmdccgpigppaa
namespace Go.Proofs.Ytalmdccgpigppaa
open Go.RowKit

/-- What the reading of a row holds in its two variables: the bytes that are left, and the values. -/
structure RdSt (w0 w : World) (gb go : Nat) (bs : List UInt8) (out : List Int) (i : Nat) : Prop where
  below : Below w0.heap.size w0 w
  hb : w0.heap.size ≤ gb
  ho : w0.heap.size ≤ go
  bb : ∃ A n c, Blk w gb 26 [.slice A n c] ∧ RB w0 A n (bs.drop i) ∧ n ≤ c ∧ c ≤ maxLen
  bo : ∃ A n c, Blk w go 54 [.slice A n c] ∧ Ow iv w w0.heap.size 3 A n c out

theorem cut_rb {w : World} {A : Option Addr} {n c k : Nat} {l : List UInt8} (h : RB w A n l) (hk : k ≤ n) (hc : n ≤ c) : RB w (if c = k then A else A.map (·.add (k * 1))) (n - k) (l.drop k) := by
  refine ⟨by rw [List.length_drop, h.1], ?_⟩
  have := h.2.cut hk hc
  rw [Nat.mul_one]
  exact this.congr fun i hi => by unfold byteAt; simp [List.getD_eq_getElem?_getD]

end Go.Proofs.Ytalmdccgpigppaa
namespace Go.Proofs.Ytalmdccgpigppaa
open Go.RowKit

/-- What reads numbers holds: the bytes that are left. -/
structure NumSt (w0 w : World) (gb : Nat) (bs : List UInt8) (i : Nat) : Prop where
  below : Below w0.heap.size w0 w
  hb : w0.heap.size ≤ gb
  bb : ∃ A n c, Blk w gb 26 [.slice A n c] ∧ RB w0 A n (bs.drop i) ∧ n ≤ c ∧ c ≤ maxLen
def numAt (bs : List UInt8) (i : Nat) : Int := sg (getL ((bs.drop i).take 8))
theorem next_any (gb : Nat) (bs : List UInt8) (i : Nat) (w0 w : World) (h : NumSt w0 w gb bs i) (hi : i + 8 ≤ bs.length) :
    Calls Try.prog 132 #[.pointer (some ⟨gb, 0, none⟩)] w fun e w' => e = .returned (.int .i64 (numAt bs i)) ∧ NumSt w0 w' gb bs (i + 8) ∧ w.grownBy w' (some gb) := by
  obtain ⟨hbel, hb, A, n, c, hblk, hrb, hnc, hcm⟩ := h
  have hn : 8 ≤ n := by have := hrb.1; rw [List.length_drop] at this; omega
  have hcut8 : ∀ W, (Instr.slice 26 (.slice A n c) none (some (.int .i64 8)) none).run Try.prog W = .ok (.slice A 8 c) W := fun W => run_cut_to (P := Try.prog) elemU8 A n c 8 (by omega) W
  have hcutr : ∀ W, (Instr.slice 26 (.slice A n c) (some (.int .i64 8)) none none).run Try.prog W = .ok (.slice (if c = 8 then A else A.map (·.add (8 * 1))) (n - 8) (c - 8)) W := fun W => run_cut_from (P := Try.prog) elemU8 A n c 8 hn W
  have hrb2 := cut_rb hrb (k := 8) hn hnc
  rw [List.drop_drop] at hrb2
  generalize (if c = 8 then A else A.map (·.add (8 * 1))) = A' at *
  have hget := fun w hl => get_any A c ((bs.drop i).take 8) w hl
  have hr8 := (hrb.below hbel (Nat.le_refl _)).less hn
  have hnum : Hid (sg (getL ((bs.drop i).take 8)) = numAt bs i) := rfl
  rw [hnum.out] at hget
  generalize numAt bs i = v at *
  have c1 : w.cell? ⟨gb, 0, none⟩ = some (.slice A n c) := hblk.cell 0
  have f1 := hblk.frozen 0
  clear hnum
  go_enter Try.func132, Try.ntmps132
  go_wp2_with (go_at_call 80; (with_reducible refine (hget _ hr8).mono ?_); rintro e w' ⟨rfl, rfl⟩)
  go_ret
  exact ⟨rfl, ⟨hbel.setCell hb _, hb, A', n - 8, c - 8, hblk.set_ 0 _, hrb2, by omega, by omega⟩, grown_setCell _⟩
theorem numbers_any (A : Option Addr) (n c : Nat) (bs : List UInt8) (w : World) (hl : RB w A n bs) (hnc : n ≤ c) (hcm : c ≤ maxLen) :
    Calls Try.prog 103 #[.slice A n c] w fun e w' => e = .returned (.func (.func 132) #[] #[.pointer (some ⟨w.heap.size, 0, none⟩)]) ∧ NumSt w w' w.heap.size bs 0 ∧ w'.heap.size = w.heap.size + 1 := by
  go_enter Try.func103, Try.ntmps103
  go_wp2
  go_ret
  exact ⟨rfl, ⟨(by (repeat' (first | (with_reducible exact Below.refl _ _) | (with_reducible assumption) | (with_reducible refine Below.drew ?_) | (with_reducible refine below_drewN ?_ _) | (with_reducible refine Below.alloc ?_ ?_ _) | (with_reducible refine Below.setCell ?_ ?_ _) | omega | (simp; done) | (simp; omega)))), Nat.le_refl _, A, n, c, (by (repeat' (first | (with_reducible assumption) | (with_reducible refine Blk.top _ (by first | rfl | omega | (simp; done) | (simp; omega)) rfl) | (with_reducible refine Blk.alloc ?_ _) | (with_reducible refine Blk.drew ?_) | (with_reducible refine Blk.drewN ?_ _) | (with_reducible refine Blk.far ?_ (by first | omega | (simp; done) | (simp; omega)) _)))), by simpa using hl, hnc, hcm⟩, by simp⟩
end Go.Proofs.Ytalmdccgpigppaa
