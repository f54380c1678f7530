/- Parts: RefNumE, RowB, RowC, RefNumF, Zag, RowD, StateD, StateE. -/
import Derived.Test.YtpmkpckldnnigaaGreatPr02
import Derived.Test.YtpmkpckldnnigaaGreatPr08
import Derived.Test.YtpmkpckldnnigaaGreatPr04
import Derived.Test.YtpmkpckldnnigaaGreatPr01
import Derived.Test.YtpmkpckldnnigaaGreatPr03
import Derived.Deep.RegionHeld3
import Derived.Deep.RegionLaw
import Derived.Deep.AppendLies
import Derived.Test.YtpmkpckldnnigaaGreatPr07
set_option linter.unusedVariables false
set_option linter.unusedSimpArgs false
set_option maxRecDepth 100000
set_option maxHeartbeats 40000000
namespace Go.Proofs.YtpmkpckldnnigaaGreat
open Go.RowKit
theorem bit_part (Z i k : Nat) (hk : k < 7) : bit Z (7 * i + k) = Z / 128 ^ i % 128 / 2 ^ k % 2 := by
  have e : (128 : Nat) = 2 ^ k * 2 ^ (7 - k) := by rw [← Nat.pow_add, show k + (7 - k) = 7 from by omega]
  have e' : (128 : Nat) ^ i = 2 ^ (7 * i) := by rw [Nat.pow_mul]
  unfold bit; rw [Nat.pow_add, ← Nat.div_div_eq_div_mul, ← e']; generalize Z / 128 ^ i = V; rw [e, Nat.mod_mul_right_div_self, show 7 - k = (6 - k) + 1 from by omega, Nat.pow_succ, Nat.mod_mul_left_mod]
theorem vh5 (n : Int) (w : World) (h0 : -9223372036854775808 ≤ n) (h1 : n ≤ 9223372036854775807) :
    Calls Tryz.prog 150 #[.int .i64 n] w fun e w' => ∃ A c, e = .returned (.slice A (digL 9 (zz n)).length c) ∧ OB w' w.heap.size 5 A (digL 9 (zz n)).length c (digL 9 (zz n)) ∧ Below w.heap.size w w' := by
  have hturn := fun w => turned_any n w h0 h1
  have hZ := zz_lt h0 h1; generalize zz n = Z at *; have hpos := hdd (digL_pos 9 Z omg); have htab := hdd (digL_tab 9 Z omg); have hlen := qf8 9 Z; generalize digL 9 Z = D at *; have HM := hdd (rfl : D.length = D.length); obtain ⟨M, hM⟩ : ∃ M, D.length = M := ⟨_, rfl⟩; rw [hM] at hpos htab hlen ⊢; clear hM HM; go_enter Tryz.func150, Tryz.ntmps150; go_wp2_with (go_at_call 214; (with_reducible refine (hturn _).mono ?_); rintro e w1 ⟨B, d, rfl, hownb, hb1⟩); have hb1s := hb1.size; obtain ⟨gb, rfl, _, hgb⟩ := hownb.addr omg; have hcell : ∀ k, k < 64 → Hid (w1.cell? ⟨gb, k, none⟩ = some (.int .i64 (bit Z k : Nat))) := fun k hk => hownb.tab_cell hk
  clear hturn hownb; go_loopw [4, 5] (fun v i wr => ∃ k A c, k ≤ 10 ∧ i = .int .i64 (k : Nat) ∧ v = .slice A k c ∧ OB wr w1.heap.size 5 A k c (tabB k (fun i => Z / 128 ^ i % 128)) ∧ Below w1.heap.size w1 wr) (fun _ i _ => 10 - (intOf i).toNat)
  case atStart => exact ⟨0, none, 0, omg, rfl, rfl, Ow.nil _ _ _ _, Below.refl _ _⟩
  case round =>
    obtain ⟨k, A, c, hk, rfl, rfl, hown, hb⟩ := hrel; have hbs := hb.size
    by_cases hk8 : k < 10
    · go_wp2; obtain ⟨wo, rfl⟩ : ∃ wo : World, wo = wr := ⟨_, rfl⟩; go_loop [6, 7] (fun cc jj => ∃ m x, m ≤ 7 ∧ jj = .int .i64 (6 - (m : Nat)) ∧ cc = .int .i64 (x : Nat) ∧ Hid (x = Z / 128 ^ k % 128 / 2 ^ (7 - m)) ∧ x ≤ 127) (fun _ jj => (intOf jj + 1).toNat)
      case atStart => exact ⟨0, 0, omg, rfl, rfl, by show 0 = _; omega, omg⟩
      case round =>
        obtain ⟨m, x, hm, rfl, rfl, hx, hx2⟩ := hrel
        by_cases hm8 : m < 7
        · have hx3 : Hid (2 * x + bit Z (7 * k + (6 - m)) = Z / 128 ^ k % 128 / 2 ^ (7 - (m + 1))) := by
            show _ = _
            rw [hx.out, bit_part Z k (6 - m) omg, show 7 - m = (6 - m) + 1 from by omega, show 7 - (m + 1) = 6 - m from by omega, Nat.pow_succ, ← Nat.div_div_eq_div_mul]; omega
          have hx4 : 2 * x + bit Z (7 * k + (6 - m)) ≤ 127 := by
            rw [hx3.out]; have := Nat.div_le_self (Z / 128 ^ k % 128) (2 ^ (7 - (m + 1))); omega
          by_cases h64 : 7 * k + (6 - m) < 64
          · have hc := (hb.cell (p := ⟨gb, 7 * k + (6 - m), none⟩) hgb).trans (hcell (7 * k + (6 - m)) h64).out; have hd : decide (7 * (k : Int) + (6 - (m : Int)) < 64) = true := by rw [decide_eq_true_eq]; omega
            generalize bit Z (7 * k + (6 - m)) = y at *; clear hcell; go_wp2; go_round
            case rel => exact ⟨m + 1, 2 * x + y, omg, by go_num, by go_num, hx3, hx4⟩
            case measure => simp [intOf]; omega
          · have hd : decide (7 * (k : Int) + (6 - (m : Int)) < 64) = false := by rw [decide_eq_false_iff_not]; omega
            rw [qy9 (n := 64) hZ omg] at hx3; have hx0 : Hid (x = Z / 128 ^ k % 128 / 2 ^ (7 - (m + 1))) := by
              have h1 : x = 0 := by
                rw [hx.out]; have hbig : Z / 128 ^ k % 128 < 2 ^ (7 - m) := by
                  have hk9 : k = 9 := omg; subst hk9; have : Z / 128 ^ 9 ≤ 1 := omg; have h2 : 2 ^ 1 ≤ 2 ^ (7 - m) := Nat.pow_le_pow_right omg omg; omega
                exact Nat.div_eq_of_lt hbig
              have h2 := hx3.out
              show x = _
              rw [← h2]; omega
            clear hcell hx3; go_wp2; go_round
            case rel => exact ⟨m + 1, x, omg, by go_num, rfl, hx0, omg⟩
            case measure => simp [intOf]; omega
        · have hm9 : m = 7 := omg; subst hm9; have hx3 : Hid (tabB k (fun i => Z / 128 ^ i % 128) ++ [UInt8.ofNat x] = tabB (k + 1) (fun i => Z / 128 ^ i % 128)) := by
            show _ = _
            rw [← vc9]; congr 3; rw [hx.out]; simp
          have hbv := hdd (qi2 (v := x) omg); clear hcell hx; go_wp2_with (at_builtin; refine qa6 rfl rfl qb4 qc2 (s := .tmp 34) (N := k + 1) (L := tabB (k + 1) (fun i => Z / 128 ^ i % 128)) rfl (hown.below (b := wo.heap.size) gwn szz) rfl (k := [UInt8.ofNat x]) (Rd.of_block (l := [UInt8.ofNat x]) (qb7 _ _ smp) (congrArg (fun x => [x]) hbv.out.symm)) rfl hx3.out uml omg szz ?_; intro A5 c5 w5 hown5 hg5 hat5 hb5); replace hb5 := qa0 (a := w1) (B := w1.heap.size) gwn hb5 szz; have hb5s := hb5.size; go_roundw
          case rel => exact ⟨k + 1, A5, c5, omg, by go_num, rfl, hown5, hb5⟩
          case measure => simp [intOf]; omega
    · have hk9 : k = 10 := omg; subst hk9; obtain ⟨g, rfl, hgb, _⟩ := hown.addr omg; clear hcell; go_wp2; obtain ⟨wo, rfl⟩ : ∃ wo : World, wo = wr := ⟨_, rfl⟩; go_loop [4] (fun vv => ∃ j, M ≤ j ∧ j ≤ 10 ∧ vv = .slice (some ⟨g, 0, none⟩) j c ∧ Hid (Z < 128 ^ j)) (fun vv => lenIn vv)
      case atStart => exact ⟨10, omg, by omega, rfl, by show Z < 128 ^ 10; omega⟩
      case round =>
        obtain ⟨j, hj, hj10, rfl, hZj⟩ := hrel; have hstop : Hid ((1 < j ∧ Z / 128 ^ (j - 1) % 128 ≠ 0) ∨ j = 1 → j = M) := by
          intro h; have h1 := hpos.out; rcases Nat.lt_or_ge M j with hlt | hge
          · exfalso
            rcases h with ⟨_, hne⟩ | h
            · have h2 : 128 ^ M ≤ 128 ^ (j - 1) := Nat.pow_le_pow_right omg omg; rw [Nat.div_eq_of_lt omg] at hne; exact hne rfl
            · omega
          · omega
        have hend : ∀ (K : Prop), (j = M → K) → ((1 < j ∧ Z / 128 ^ (j - 1) % 128 ≠ 0) ∨ j = 1) → K := fun K h1 h2 => h1 (hstop.out h2)
        have Hend := hdd hend; clear hend hstop; have hcase : (1 < j ∧ Z / 128 ^ (j - 1) % 128 = 0) ∨ ((1 < j ∧ Z / 128 ^ (j - 1) % 128 ≠ 0) ∨ j = 1) := omg; have hload : 1 < j → wo.cell? ⟨g, j - 1, none⟩ = some (.int .u8 ((Z / 128 ^ (j - 1) % 128 : Nat) : Int)) := by
          intro hj1; obtain ⟨b1, o1, hA, _, hc⟩ := hown.rd.rb.at_ (k := j - 1) omg; injection hA with hA; injection hA with e1 e2 _; subst e1 e2; rw [Nat.zero_add, tabB_at _ omg omg] at hc; exact hc
        have Hload := hdd hload; clear hload; rcases hcase with ⟨hj1, hq⟩ | hex
        · have hc := Hload.out hj1; rw [hq] at hc; have hcut : ∀ W : World, (Instr.slice 22 (.slice (some ⟨g, 0, none⟩) j c) none (some (.int .i64 ((j : Int) - 1))) none).run Tryz.prog W = .ok (.slice (some ⟨g, 0, none⟩) (j - 1) c) W := fun W => by
            have := qj3 qb4 (some ⟨g, 0, none⟩) j c (j - 1) (by have := hown.cap; omega) W
            rwa [show (((j - 1 : Nat)) : Int) = (j : Int) - 1 from by omega] at this
          have hZ2 : Z < 128 ^ (j - 1) := by
            have h2 := hZj.out; obtain ⟨q, rfl⟩ : ∃ q, j = q + 1 := ⟨j - 1, omg⟩; rw [Nat.add_sub_cancel] at hq ⊢; rw [Nat.pow_succ] at h2; have h3 : Z / 128 ^ q < 128 := by
              rw [Nat.div_lt_iff_lt_mul (Nat.pow_pos omg)]; omega
            have h4 : Z / 128 ^ q = 0 := by generalize Z / 128 ^ q = V at *; omega
            rcases Nat.lt_or_ge Z (128 ^ q) with h | h
            · exact h
            · have := Nat.div_pos h (Nat.pow_pos (n := q) (show 0 < 128 by omega)); omega
          have hM2 : M ≤ j - 1 := by
            rcases Nat.lt_or_ge M j with h | h
            · omega
            · exfalso
              have hMj : M = j := omg; have := hpos.out.2; rw [hMj] at this; omega
          have HZ2 := hdd hZ2; clear hZ2 hq Hend; go_wp2; go_round
          case rel => exact ⟨j - 1, hM2, omg, rfl, HZ2⟩
          case measure => simp [lenIn]; omega
        · refine Hend.out _ (fun hjM => ?_) hex; subst hjM; have hown2 : OB wo w1.heap.size 5 (some ⟨g, 0, none⟩) j c (tabB j (fun i => if i < 0 then Z / 128 ^ i % 128 + 128 else Z / 128 ^ i % 128)) := by
            have := hown.shorter hj10; rw [tabB_take _ hj10] at this; simpa using this
          have hgo : ((1 < j) ∧ ∃ q, wo.cell? ⟨g, j - 1, none⟩ = some (.int .u8 ((q : Nat) : Int)) ∧ (((q : Nat) : Int) == 0) = false) ∨ decide ((1 : Int) < (j : Int)) = false := by
            rcases hex with ⟨h1, h2⟩ | h1
            · exact .inl ⟨h1, _, Hload.out h1, by rw [beq_eq_false_iff_ne]; omega⟩
            · exact .inr (by rw [decide_eq_false_iff_not]; omega)
          clear hex Hend Hload hpos hown hZj; rcases hgo with ⟨hj1, q, hc, hq⟩ | hj1
          all_goals
            go_wp2; go_loopw [8] (fun kk wr => ∃ k, k + 1 ≤ j ∧ kk = .int .i64 (k : Nat) ∧ OB wr w1.heap.size 5 (some ⟨g, 0, none⟩) j c (tabB j (fun i => if i < k then Z / 128 ^ i % 128 + 128 else Z / 128 ^ i % 128)) ∧ Below w1.heap.size w1 wr) (fun kk _ => j - (intOf kk).toNat)
            case atStart => exact ⟨0, omg, rfl, hown2, hb⟩
            case round =>
              obtain ⟨k, hk, rfl, hown, hb⟩ := hrel; have hbs := hb.size
              by_cases hkj : k + 1 < j
              · obtain ⟨b1, o1, hA, _, hc⟩ := hown.rd.rb.at_ (k := k) omg; injection hA with hA; injection hA with e1 e2 _; subst e1 e2; rw [Nat.zero_add, tabB_at _ omg (by simp; omega)] at hc; simp only [Nat.lt_irrefl, if_false] at hc; have hfree := hown.free k; have hset := fun u hu => hdd (hown.tabB_set (f' := fun i => if i < k + 1 then Z / 128 ^ i % 128 + 128 else Z / 128 ^ i % 128) k (Z / 128 ^ k % 128 + 128) u omg omg hu (fun i hi => by
                  by_cases h1 : i = k
                  · subst h1; simp
                  · by_cases h2 : i < k
                    · simp [h1, h2, Nat.lt_succ_of_lt h2]
                    · simp [h1, h2, show ¬ i < k + 1 from by omega]))
                have hlt := Nat.mod_lt (Z / 128 ^ k) (show 0 < 128 by omega); generalize Z / 128 ^ k % 128 = y at hc hset hlt; clear hown hown2; go_wp2; go_roundw
                case rel => exact ⟨k + 1, omg, by go_num, (hset _ (by first | rfl | (congr 1; omega))).out, gwn⟩
                case measure => simp [intOf]; omega
              · have hD : tabB j (fun i => if i < k then Z / 128 ^ i % 128 + 128 else Z / 128 ^ i % 128) = D := by
                  rw [htab.out]; exact qz0 (fun i hi => by
                    have : (i < k) = (i + 1 < j) := by simp; omega
                    simp [this])
                rw [hD] at hown; clear hD hown2; go_wp2; go_ret; exact ⟨_, c, rfl, hown.rebase hb1s, qa0 hb1 hb hb1s⟩
structure RdSt (w0 w : World) (gb go : Nat) (bs : List UInt8) (out : List Int) (i : Nat) : Prop where
  below : Below w0.heap.size w0 w
  hb : w0.heap.size ≤ gb
  ho : w0.heap.size ≤ go
  bb : ∃ A n c, Blk w gb 22 [.slice A n c] ∧ RB w0 A n (bs.drop i) ∧ n ≤ c ∧ c ≤ maxLen
  bo : ∃ A n c, Blk w go 23 [.slice A n c] ∧ Ow iv w w0.heap.size 3 A n c out
theorem cut_rb {w : World} {A : Option Addr} {n c k : Nat} {l : List UInt8} (h : RB w A n l) (hk : k ≤ n) (hc : n ≤ c) : RB w (if c = k then A else A.map (·.add (k * 1))) (n - k) (l.drop k) := by
  refine ⟨by rw [List.length_drop, h.1], ?_⟩; have := h.2.cut hk hc; rw [Nat.mul_one]; exact this.congr fun i hi => by unfold qa2; simp [List.getD_eq_getElem?_getD]
structure NumSt (w0 w : World) (gb : Nat) (bs : List UInt8) (i : Nat) : Prop where
  below : Below w0.heap.size w0 w
  hb : w0.heap.size ≤ gb
  bb : ∃ A n c, Blk w gb 22 [.slice A n c] ∧ RB w0 A n (bs.drop i) ∧ n ≤ c ∧ c ≤ maxLen
def qn4 (bs : List UInt8) (i : Nat) : Int := sg (getL ((bs.drop i).take 8))
theorem vk1 (gb : Nat) (bs : List UInt8) (i : Nat) (w0 w : World) (h : NumSt w0 w gb bs i) (hi : i + 8 ≤ bs.length) :
    Calls Tryz.prog 212 #[.pointer (some ⟨gb, 0, none⟩)] w fun e w' => e = .returned (.int .i64 (qn4 bs i)) ∧ NumSt w0 w' gb bs (i + 8) ∧ w.grownBy w' (some gb) := by
  obtain ⟨hbel, hb, A, n, c, hblk, hrb, hnc, hcm⟩ := h; have hn : 8 ≤ n := by have := hrb.1; rw [List.length_drop] at this; omega
  have hcut8 : ∀ W, (Instr.slice 22 (.slice A n c) none (some (.int .i64 8)) none).run Tryz.prog W = .ok (.slice A 8 c) W := fun W => qj3 (P := Tryz.prog) qb4 A n c 8 omg W
  have hcutr : ∀ W, (Instr.slice 22 (.slice A n c) (some (.int .i64 8)) none none).run Tryz.prog W = .ok (.slice (if c = 8 then A else A.map (·.add (8 * 1))) (n - 8) (c - 8)) W := fun W => qi5 (P := Tryz.prog) qb4 A n c 8 hn W
  have hrb2 := cut_rb hrb (k := 8) hn hnc; rw [List.drop_drop] at hrb2; generalize (if c = 8 then A else A.map (·.add (8 * 1))) = A' at *; have hget := fun w hl => vk2 A c ((bs.drop i).take 8) w hl
  have hr8 := (hrb.below hbel nlr).less hn; have hnum : Hid (sg (getL ((bs.drop i).take 8)) = qn4 bs i) := rfl; rw [hnum.out] at hget; generalize qn4 bs i = v at *; have c1 : w.cell? ⟨gb, 0, none⟩ = some (.slice A n c) := hblk.cell 0; have f1 := hblk.frozen 0; clear hnum; go_enter Tryz.func212, Tryz.ntmps212; go_wp2_with (go_at_call 205; (with_reducible refine (hget _ hr8).mono ?_); rintro e w' ⟨rfl, rfl⟩); go_ret; exact ⟨rfl, ⟨hbel.setCell hb _, hb, A', n - 8, c - 8, hblk.set_ 0 _, hrb2, omg, omg⟩, qb1 _⟩
theorem numbers_any (A : Option Addr) (n c : Nat) (bs : List UInt8) (w : World) (hl : RB w A n bs) (hnc : n ≤ c) (hcm : c ≤ maxLen) :
    Calls Tryz.prog 140 #[.slice A n c] w fun e w' => e = .returned (.func (.func 212) #[] #[.pointer (some ⟨w.heap.size, 0, none⟩)]) ∧ NumSt w w' w.heap.size bs 0 ∧ w'.heap.size = w.heap.size + 1 := by
  go_enter Tryz.func140, Tryz.ntmps140; go_wp2; go_ret; exact ⟨rfl, ⟨gwn, Nat.le_refl _, A, n, c, blq, by simpa using hl, hnc, hcm⟩, by simp⟩
theorem Ow.grownBlk {α : Type} {enc : α → Value} {w w' : World} {base n c g : Nat} {e t : TypeId} {A : Option Addr} {l : List α} {cs : List Value} (h : Ow enc w base e A n c l) (hg : w.grownBy w' (some g)) (hb : Blk w g t cs) (hne : e ≠ t) : Ow enc w' base e A n c l :=
  ⟨h.1, qe7 (F := (· = g)) h.2 (Keep.of_grown hg (fun x e => by injection e with e; exact e.symm)) (fun x hx e => qw0 h.2 hb hne (by subst e; exact hx))⟩
def qn8 : SV := ⟨0, 0, []⟩
def qo5 (bs : List UInt8) (k : Nat) : List Int := (List.range k).map fun k => qn4 bs (16 + 8 * k)
def snapOf (n : Nat) (bs : List UInt8) : SV := ⟨qn4 bs 0, qn4 bs 8, qo5 bs n⟩
def qn0 (p : PV) (bs : List UInt8) : SV × Nat :=
  if mayB p = false then (qn8, 2)
  else if bs.length < 8 * (2 + p.cells.length) then (qn8, 10)
  else if 8 * (2 + p.cells.length) < bs.length then (qn8, 12)
  else if ql1 p (snapOf p.cells.length bs) then (snapOf p.cells.length bs, 0) else (qn8, 11)
def vf4 (w : World) (r : SV × Nat) (e : Ending) (w' : World) : Prop := ∃ A m d, e = .returned (.tuple #[.agg #[.int .i64 r.1.tick, .int .i64 r.1.hash, .slice A m d], .int .i64 (r.2 : Nat)]) ∧ RI w' A m r.1.cells ∧ m ≤ d ∧ d ≤ maxLen ∧ (∀ g, A.map (·.block) = some g → w.heap.size ≤ g ∧ ∃ cs, Blk w' g 3 cs) ∧ Below w.heap.size w w'
theorem vf4.bad {w w' : World} {r : SV × Nat} (z : Int) (h1 : r.1 = qn8) (h2 : z = (r.2 : Nat)) (hb : Below w.heap.size w w') : vf4 w r (.returned (.tuple #[.agg #[.int .i64 0, .int .i64 0, .slice none 0 0], .int .i64 z])) w' :=
  ⟨none, 0, 0, by rw [h1, h2]; rfl, by rw [h1]; exact ⟨rfl, Row.nil _ _ _⟩, Nat.le_refl _, by simp [maxLen], fun g e => (by cases e), hb⟩
def vf5 (w : World) (r : SV × Nat) (e : Ending) (w' : World) : Prop := ∃ A m d, e = .returned (.tuple #[.agg #[.int .i64 r.1.tick, .int .i64 r.1.hash, .slice A m d], .int .i64 (r.2 : Nat)]) ∧ (∃ b, w.heap.size ≤ b ∧ Ow iv w' b 3 A m d r.1.cells) ∧ Below w.heap.size w w'
theorem vf5.bad {w w' : World} {r : SV × Nat} (z : Int) (h1 : r.1 = qn8) (h2 : z = (r.2 : Nat)) (hb : Below w.heap.size w w') : vf5 w r (.returned (.tuple #[.agg #[.int .i64 0, .int .i64 0, .slice none 0 0], .int .i64 z])) w' :=
  ⟨none, 0, 0, by rw [h1, h2]; rfl, by rw [h1]; exact ⟨w.heap.size, Nat.le_refl _, Ow.nil _ _ _ _⟩, hb⟩
theorem stateread_own (x : PA) (p : PV) (B : Option Addr) (m d : Nat) (bs : List UInt8) (w : World) (h : qc8 w x p) (hl : RB w B m bs) (hm : m ≤ d) (hd : d ≤ maxLen) :
    Calls Tryz.prog 62 #[.agg #[.slice x.A1 x.n1 x.c1, .slice x.A2 x.n2 x.c2, .int .i64 p.regs, .slice x.A3 x.n3 x.c3, .slice x.A4 x.n4 x.c4], .slice B m d] w (vf5 w (qn0 p bs)) := by
  have hmay := fun w h => qs7 x p w h
  have hlen := hl.1; have hn3 := h.r3.1; generalize hr : qn0 p bs = r; unfold qn0 at hr; have hMd : m ≤ 9223372036854775807 := by unfold maxLen at hd; omega
  cases hmb : mayB p with
  | false =>
    rw [if_pos hmb] at hr; rw [hmb] at hmay; subst hr; clear hmb hlen hn3; go_enter Tryz.func62, Tryz.ntmps62; go_wp2_with ((go_at_call 128; (with_reducible refine (hmay _ (h.below (b := w.heap.size) gwn nlr)).mono ?_); rintro e w1 ⟨rfl, hb1⟩); have hp1 := Blk.below (w' := w1) (g := w.heap.size) (t := 27) (cs := [.slice x.A1 x.n1 x.c1, .slice x.A2 x.n2 x.c2, .int .i64 p.regs, .slice x.A3 x.n3 x.c3, .slice x.A4 x.n4 x.c4]) blq hb1 szz; have hs1 := Blk.below (w' := w1) (g := w.heap.size + 1) (t := 32) (cs := [.int .i64 0, .int .i64 0, .slice none 0 0]) blq hb1 szz; obtain ⟨y10, y11, y12, y13, y14⟩ := blk5 hp1; obtain ⟨j10, j11, j12⟩ := blk3 hs1; have f10 := hs1.frozen 0; have f11 := hs1.frozen 1; have f12 := hs1.frozen 2; have sz1 := hs1.lt; have rs1 := hb1.size; replace hb1 := qa0 (a := w) (B := w.heap.size) gwn hb1 szz; have hb1s := hb1.size); refine bodyPost_ret (v := .tuple #[.agg #[.int .i64 0, .int .i64 0, .slice none 0 0], .int .i64 2]) (by simp [results, Tryz.results62, go_sem, j10, j11, j12]) rfl ?_; exact vf5.bad 2 rfl rfl gwn
  | true =>
    rw [if_neg (by simp [hmb])] at hr; rw [hmb] at hmay; have hn60 := (qe9.1 hmb).2.2.2.2.1; rw [hlen, hn3] at hr; rw [hn3] at hn60; have hn3' := hdd hn3; clear hmb hn3; rcases (show m < 8 * (2 + x.n3) ∨ 8 * (2 + x.n3) < m ∨ m = 8 * (2 + x.n3) by omega) with hc | hc | hc
    · rw [if_pos hc] at hr; subst hr; have hc' : (m : Int) < 8 * (2 + (x.n3 : Int)) := omg; clear hlen; go_enter Tryz.func62, Tryz.ntmps62; go_wp2_with ((go_at_call 128; (with_reducible refine (hmay _ (h.below (b := w.heap.size) gwn nlr)).mono ?_); rintro e w1 ⟨rfl, hb1⟩); have hp1 := Blk.below (w' := w1) (g := w.heap.size) (t := 27) (cs := [.slice x.A1 x.n1 x.c1, .slice x.A2 x.n2 x.c2, .int .i64 p.regs, .slice x.A3 x.n3 x.c3, .slice x.A4 x.n4 x.c4]) blq hb1 szz; have hs1 := Blk.below (w' := w1) (g := w.heap.size + 1) (t := 32) (cs := [.int .i64 0, .int .i64 0, .slice none 0 0]) blq hb1 szz; obtain ⟨y10, y11, y12, y13, y14⟩ := blk5 hp1; obtain ⟨j10, j11, j12⟩ := blk3 hs1; have f10 := hs1.frozen 0; have f11 := hs1.frozen 1; have f12 := hs1.frozen 2; have sz1 := hs1.lt; have rs1 := hb1.size; replace hb1 := qa0 (a := w) (B := w.heap.size) gwn hb1 szz; have hb1s := hb1.size); refine bodyPost_ret (v := .tuple #[.agg #[.int .i64 0, .int .i64 0, .slice none 0 0], .int .i64 10]) (by simp [results, Tryz.results62, go_sem, j10, j11, j12]) rfl ?_; exact vf5.bad 10 rfl rfl gwn
    · rw [if_neg omg, if_pos hc] at hr; subst hr; have hc' : ¬ (m : Int) < 8 * (2 + (x.n3 : Int)) := omg; have hc2 : 8 * (2 + (x.n3 : Int)) < (m : Int) := omg; clear hlen; go_enter Tryz.func62, Tryz.ntmps62; go_wp2_with ((go_at_call 128; (with_reducible refine (hmay _ (h.below (b := w.heap.size) gwn nlr)).mono ?_); rintro e w1 ⟨rfl, hb1⟩); have hp1 := Blk.below (w' := w1) (g := w.heap.size) (t := 27) (cs := [.slice x.A1 x.n1 x.c1, .slice x.A2 x.n2 x.c2, .int .i64 p.regs, .slice x.A3 x.n3 x.c3, .slice x.A4 x.n4 x.c4]) blq hb1 szz; have hs1 := Blk.below (w' := w1) (g := w.heap.size + 1) (t := 32) (cs := [.int .i64 0, .int .i64 0, .slice none 0 0]) blq hb1 szz; obtain ⟨y10, y11, y12, y13, y14⟩ := blk5 hp1; obtain ⟨j10, j11, j12⟩ := blk3 hs1; have f10 := hs1.frozen 0; have f11 := hs1.frozen 1; have f12 := hs1.frozen 2; have sz1 := hs1.lt; have rs1 := hb1.size; replace hb1 := qa0 (a := w) (B := w.heap.size) gwn hb1 szz; have hb1s := hb1.size); refine bodyPost_ret (v := .tuple #[.agg #[.int .i64 0, .int .i64 0, .slice none 0 0], .int .i64 12]) (by simp [results, Tryz.results62, go_sem, j10, j11, j12]) rfl ?_; exact vf5.bad 12 rfl rfl gwn
    · rw [if_neg omg, if_neg omg] at hr; have hc' : ¬ (m : Int) < 8 * (2 + (x.n3 : Int)) := omg; have hc2 : ¬ 8 * (2 + (x.n3 : Int)) < (m : Int) := omg; have Hr := hdd hr; have hbl : bs.length = 16 + 8 * x.n3 := omg; have hge : 16 + 8 * x.n3 ≤ bs.length := omg; have hm' : m ≤ 1000 := omg; have hnum := fun w hl => numbers_any B m d bs w hl hm hd
      clear hr hlen hc hbl; have hT : ∀ k, Hid (qo5 bs k ++ [qn4 bs (16 + 8 * k)] = qo5 bs (k + 1)) := fun k => by
        show _ = _
        unfold qo5; rw [List.range_succ, List.map_append]; rfl
      have hT0 : Hid (qo5 bs 0 = []) := rfl; have hsn : Hid (snapOf x.n3 bs = ⟨qn4 bs 0, qn4 bs 8, qo5 bs x.n3⟩) := rfl; go_enter Tryz.func62, Tryz.ntmps62; go_wp2_with (first | ((go_at_call 128; (with_reducible refine (hmay _ (h.below (b := w.heap.size) gwn nlr)).mono ?_); rintro e w1 ⟨rfl, hb1⟩); have hp1 := Blk.below (w' := w1) (g := w.heap.size) (t := 27) (cs := [.slice x.A1 x.n1 x.c1, .slice x.A2 x.n2 x.c2, .int .i64 p.regs, .slice x.A3 x.n3 x.c3, .slice x.A4 x.n4 x.c4]) blq hb1 szz; have hs1 := Blk.below (w' := w1) (g := w.heap.size + 1) (t := 32) (cs := [.int .i64 0, .int .i64 0, .slice none 0 0]) blq hb1 szz; obtain ⟨y10, y11, y12, y13, y14⟩ := blk5 hp1; obtain ⟨j10, j11, j12⟩ := blk3 hs1; have f10 := hs1.frozen 0; have f11 := hs1.frozen 1; have f12 := hs1.frozen 2; have sz1 := hs1.lt; have rs1 := hb1.size; replace hb1 := qa0 (a := w) (B := w.heap.size) gwn hb1 szz; have hb1s := hb1.size) | ((go_at_call 140; (with_reducible refine (hnum _ (hl.below (B := w.heap.size) gwn nlr)).mono ?_); rintro e w2 ⟨rfl, st2, zs2⟩); have Hz2 := hdd zs2; clear zs2; have hp2 := hp1.below (w' := w2) st2.below hp1.lt; have hs2 := hs1.below (w' := w2) st2.below hs1.lt; have hb2 : Below w.heap.size w w2 := hb1.trans (st2.below.mono omg); have sz2 := hs2.lt) | ((go_at_call 212; (with_reducible refine (vk1 w1.heap.size bs 0 w1 _ st2 omg).mono ?_); rintro e w3 ⟨rfl, st3, hg3⟩); have hp3 := Blk.grown hp2 hg3 (by simp; omega); have hs3 := Blk.grown hs2 hg3 (by simp; omega); have hb3 : Below w.heap.size w w3 := hb1.trans (st3.below.mono omg); obtain ⟨y30, y31, y32, y33, y34⟩ := blk5 hp3; have sz3 := hs3.lt) | ((go_at_call 212; (with_reducible refine (vk1 w1.heap.size bs (0 + 8) w1 _ st3 omg).mono ?_); rintro e w4 ⟨rfl, st4, hg4⟩); have hp4 := Blk.grown hp3 hg4 (by simp; omega); have hs4 := Blk.grown hs3 hg4 (by simp; omega); have hb4 : Below w.heap.size w w4 := hb1.trans (st4.below.mono omg); obtain ⟨y40, y41, y42, y43, y44⟩ := blk5 hp4; have sz4 := hs4.lt; have zp4 := hp4.lt)); have zz1 := sz1; clear hp1 hs1 hp2 hs2 hp3 hs3 y10 y11 y12 y13 y14 j10 j11 j12 f10 f11 f12 y30 y31 y32 y33 y34 y40 y41 y42 y43 y44 st2 st3 hg3 hg4 hb2 hb3 sz2 sz3 hnum rs1 hb1s sz1; have hgb := st4.hb; obtain ⟨_, _, Ab, nb, cb, hkb, _, _, _⟩ := id st4; have hltb := hkb.lt; clear hkb; have hw14 := st4.below.size; have hgx : w1.heap.size < w4.heap.size := omg; clear Hz2; have hst4' : NumSt w1 w4 w1.heap.size bs 16 := st4; generalize qn4 bs 0 = T at *; generalize qn4 bs 8 = Hh at *; go_loopw [40] (fun i wr => ∃ (k : Nat) (A3 : Option Addr) (c3 : Nat), k ≤ x.n3 ∧ i = .int .i64 (k : Nat) ∧ NumSt w1 wr w1.heap.size bs (16 + 8 * k) ∧ Blk wr w4.heap.size 32 [.int .i64 T, .int .i64 Hh, .slice A3 k c3] ∧ Ow iv wr w1.heap.size 3 A3 k c3 (qo5 bs k) ∧ Blk wr w.heap.size 27 [.slice x.A1 x.n1 x.c1, .slice x.A2 x.n2 x.c2, .int .i64 p.regs, .slice x.A3 x.n3 x.c3, .slice x.A4 x.n4 x.c4] ∧ Blk wr (w.heap.size + 1) 32 [.int .i64 0, .int .i64 0, .slice none 0 0] ∧ Below w.heap.size w wr) (fun i _ => x.n3 - (intOf i).toNat)
      case atStart => exact ⟨0, none, 0, omg, rfl, ⟨hst4'.below.alloc omg _, hst4'.hb, by obtain ⟨a, b, c, k1, k2⟩ := hst4'.bb; exact ⟨a, b, c, k1.alloc _, k2⟩⟩, blq, by rw [hT0.out]; exact Ow.nil _ _ _ _, blq, blq, gwn⟩
      case round =>
        clear hp4 hs4 hst4' st4 hb4; obtain ⟨k, A3, c3, hk, rfl, hst, hx, hown, hp, hs, hbel⟩ := hrel; have hbs := hbel.size; have hgg : w4.heap.size < wr.heap.size := hx.lt; obtain ⟨q0, q1, q2⟩ := blk3 hx
        by_cases hlt : k < x.n3
        · have hstd : NumSt w1 wr.drew w1.heap.size bs (16 + 8 * k) := ⟨hst.below.drew, hst.hb, hst.bb⟩; obtain ⟨_, _, Ab, nb, cb, hkb, _, _, _⟩ := id hst; have hTk := hT k; have hle : 16 + 8 * k + 8 ≤ bs.length := omg; have hnext := fun (w2 : World) (hs : NumSt w1 w2 w1.heap.size bs (16 + 8 * k)) => vk1 _ bs (16 + 8 * k) w1 w2 hs hle
          generalize qn4 bs (16 + 8 * k) = v at *; clear hT hT0; have n1 : w1.heap.size ≠ w4.heap.size := omg; have hfz := hx.frozen 2; have hww1 := hb1.size; go_wp2; go_region_law (first | (go_simp; (go_at_call 212; (with_reducible refine (hnext _ hstd).mono ?_); rintro e w5 ⟨rfl, st5, hg5⟩); have hx5 : Blk w5 w4.heap.size 32 [.int .i64 T, .int .i64 Hh, .slice A3 k c3] := Blk.grown (w := wr.drew) hx hg5 (by simp; omega); have hp5 : Blk w5 w.heap.size 27 [.slice x.A1 x.n1 x.c1, .slice x.A2 x.n2 x.c2, .int .i64 p.regs, .slice x.A3 x.n3 x.c3, .slice x.A4 x.n4 x.c4] := Blk.grown (w := wr.drew) hp hg5 (by simp; omega); have hs5 : Blk w5 (w.heap.size + 1) 32 [.int .i64 0, .int .i64 0, .slice none 0 0] := Blk.grown (w := wr.drew) hs hg5 (by simp; omega); have own5 := Ow.grownBlk (w := wr.drew) hown hg5 hkb dcd; have c52 : w5.cell? ⟨w4.heap.size, 2, none⟩ = some (.slice A3 k c3) := hx5.cell 2; have hb5 : Below w.heap.size w w5 := hb1.trans (st5.below.mono omg); have hb5s := hb5.size; have z5 := hx5.lt; have st5b := st5.below; have st5s := st5b.size; obtain ⟨_, _, Ab5, nb5, cb5, hkb5, hrb5, hnc5, hcm5⟩ := id st5) | (refine qd6 rfl rfl qk5 qr8 (s := .tmp 43) (N := k + 1) (L := qo5 bs (k + 1)) rfl (own5.below (b := w5.heap.size) gwn nlr) rfl (k := [v]) (Rd.of_block (l := [v]) (qb7 _ _ smp) rfl) rfl hTk.out uml omg szz ?_; intro A6 c6 w6 own6 hg6 hat6 hb6; have hx6 : Blk w6 w4.heap.size 32 [.int .i64 T, .int .i64 Hh, .slice A3 k c3] := Blk.grown blq hg6 (own5.ne_ hx5 dcd); have hp6 : Blk w6 w.heap.size 27 [.slice x.A1 x.n1 x.c1, .slice x.A2 x.n2 x.c2, .int .i64 p.regs, .slice x.A3 x.n3 x.c3, .slice x.A4 x.n4 x.c4] := Blk.grown blq hg6 (own5.ne_ hp5 dcd); have hs6 : Blk w6 (w.heap.size + 1) 32 [.int .i64 0, .int .i64 0, .slice none 0 0] := Blk.grown blq hg6 (own5.ne_ hs5 dcd); have c62 : w6.cell? ⟨w4.heap.size, 2, none⟩ = some (.slice A3 k c3) := hx6.cell 2; have f62 := hx6.frozen 2; have z6 := hx6.lt; have hkb6 : Blk w6 w1.heap.size 22 [.slice Ab5 nb5 cb5] := Blk.grown blq hg6 (own5.ne_ hkb5 dcd); have hbw6 : Below w1.heap.size w1 w6 := qa0 (a := w1) (B := w1.heap.size) gwn hb6 nlr))
          all_goals
            go_wp2; go_roundw
            case rel =>
              refine ⟨k + 1, A6, c6, omg, by go_num, ⟨hbw6.setCell omg _, hst.hb, Ab5, nb5, cb5, hkb6.far n1 _, hrb5, hnc5, hcm5⟩, hx6.set_ 2 _, own6.setFar hx6 dcd 2 _, hp6.far (by simp; omega) _, hs6.far (by simp; omega) _, hb1.trans ((hbw6.setCell omg _).mono omg)⟩
            case measure => simp [intOf]; omega
        · have hkn : k = x.n3 := omg; subst hkn; have hge : ((x.n3 : Nat) : Int) ≤ ((x.n3 : Nat) : Int) := omg; obtain ⟨yw0, yw1, yw2, yw3, yw4⟩ := blk5 hp; obtain ⟨jw0, jw1, jw2⟩ := blk3 hs; have hfit := fun w h k' => qs4 x p T Hh A3 x.n3 c3 (qo5 bs x.n3) w h k' uml
          have hcp := hown.cap; rw [hsn.out] at Hr; clear hT hT0; generalize qo5 bs x.n3 = CC at *; have Hr2 : Hid ((if ql1 p ⟨T, Hh, CC⟩ = true then ((⟨T, Hh, CC⟩ : SV), 0) else (qn8, 11)) = r) := Hr; clear Hr; generalize ql1 p ⟨T, Hh, CC⟩ = fb at *
          cases fb with
          | true =>
            have hr2 : Hid (r = (⟨T, Hh, CC⟩, 0)) := by show r = _; rw [← Hr2.out]; rfl
            clear Hr2; go_wp2_with ((go_at_call 129; (with_reducible refine (hfit _ (h.below (b := w.heap.size) gwn nlr) hown.rd.ri).mono ?_); rintro e w7 ⟨rfl, hb7⟩); have hx7 := hx.below (w' := w7) hb7 hx.lt; have hs7 := hs.below (w' := w7) hb7 hs.lt; have own7 := hown.below hb7 nlr; obtain ⟨v70, v71, v72⟩ := blk3 hx7; obtain ⟨u70, u71, u72⟩ := blk3 hs7; have f70 := hs7.frozen 0; have f71 := hs7.frozen 1; have f72 := hs7.frozen 2; have zz7 := hs7.lt; replace hb7 := qa0 (a := w) (B := w.heap.size) gwn hb7 szz; have hb7s := hb7.size); refine bodyPost_ret (v := .tuple #[.agg #[.int .i64 T, .int .i64 Hh, .slice A3 x.n3 c3], .int .i64 0]) (by simp [results, Tryz.results62, go_sem, u70, u71, u72]) rfl ?_; exact ⟨A3, x.n3, c3, by rw [hr2.out]; rfl, by rw [hr2.out]; exact ⟨_, hb1.size, (((own7.setFar hs7 dcd 0 _).setFar (hs7.set_ 0 _) dcd 1 _).setFar ((hs7.set_ 0 _).set_ 1 _) dcd 2 _)⟩, gwn⟩
          | false =>
            have hr2 : Hid (r = (qn8, 11)) := by show r = _; rw [← Hr2.out]; rfl
            clear Hr2; go_wp2_with ((go_at_call 129; (with_reducible refine (hfit _ (h.below (b := w.heap.size) gwn nlr) hown.rd.ri).mono ?_); rintro e w7 ⟨rfl, hb7⟩); have hx7 := hx.below (w' := w7) hb7 hx.lt; have hs7 := hs.below (w' := w7) hb7 hs.lt; have own7 := hown.below hb7 nlr; obtain ⟨v70, v71, v72⟩ := blk3 hx7; obtain ⟨u70, u71, u72⟩ := blk3 hs7; have f70 := hs7.frozen 0; have f71 := hs7.frozen 1; have f72 := hs7.frozen 2; have zz7 := hs7.lt; replace hb7 := qa0 (a := w) (B := w.heap.size) gwn hb7 szz; have hb7s := hb7.size); refine bodyPost_ret (v := .tuple #[.agg #[.int .i64 0, .int .i64 0, .slice none 0 0], .int .i64 11]) (by simp [results, Tryz.results62, go_sem, u70, u71, u72]) rfl ?_; exact vf5.bad 11 (by rw [hr2.out]) (by rw [hr2.out]; rfl) gwn
end Go.Proofs.YtpmkpckldnnigaaGreat
