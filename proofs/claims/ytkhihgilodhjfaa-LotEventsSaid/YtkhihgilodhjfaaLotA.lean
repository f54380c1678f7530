/- Contracts of package lot and of its reference: New, Below. -/
import Derived.Test.YtkhihgilodhjfaaPlainLot
import Derived.Test.YtkhihgilodhjfaaRefArith
import Derived.Test.YtkhihgilodhjfaaKeep
namespace Go.Proofs.Ytkhihgilodhjfaa
open Go.RowKit

def LotAt (w : World) (g : Nat) (s : UInt64) : Prop := Blk w g 110 [.int .u64 (s.toNat : Int)]
def RLotAt (w : World) (g : Nat) (s : UInt64) : Prop := Blk w g 59 [.int .i64 (sg s.toNat)]

section
variable {F : Nat → Prop} {w w' : World} {g : Nat} {s : UInt64}
theorem LotAt.alloc (h : LotAt w g s) (o : Obj) : LotAt (w.alloc o) g s := Blk.alloc h o
theorem LotAt.lt (h : LotAt w g s) : g < w.heap.size := Blk.lt h
theorem LotAt.keep (h : LotAt w g s) (k : Keep F w w') (hn : ¬ F g) : LotAt w' g s := Blk.keep h k hn
theorem RLotAt.alloc (h : RLotAt w g s) (o : Obj) : RLotAt (w.alloc o) g s := Blk.alloc h o
theorem RLotAt.lt (h : RLotAt w g s) : g < w.heap.size := Blk.lt h
theorem RLotAt.keep (h : RLotAt w g s) (k : Keep F w w') (hn : ¬ F g) : RLotAt w' g s := Blk.keep h k hn
end
theorem newlot_any (seed : Int) (w : World) : Calls Try.prog 27 #[.int .i64 seed] w fun e w' => e = .returned (.pointer (some ⟨w.heap.size, 0, none⟩)) ∧ LotAt w' w.heap.size (UInt64.ofNat (un seed)) ∧ Below w.heap.size w w' ∧ w'.heap.size = w.heap.size + 1 := by
  have hw : IntKind.u64.wrap seed = ((UInt64.ofNat (un seed)).toNat : Int) := by
    rw [UInt64.toNat_ofNat_of_lt' (by have := un_lt seed; simp [UInt64.size]; omega), IntKind.wrap_u64]; unfold un; omega
  generalize UInt64.ofNat (un seed) = U at *
  go_enter Try.func27, Try.ntmps27
  go_wp2
  go_ret
  exact ⟨rfl, Blk.top _ rfl rfl, (by (repeat' (first | (with_reducible exact Below.refl _ _) | (with_reducible assumption) | (with_reducible refine Below.drew ?_) | (with_reducible refine below_drewN ?_ _) | (with_reducible refine Below.alloc ?_ ?_ _) | (with_reducible refine Below.setCell ?_ ?_ _) | omega | (simp; done) | (simp; omega)))), by simp⟩

theorem lot_next (s : UInt64) : (lotNext s).toNat = (6364136223846793005 * s.toNat % 18446744073709551616 + 1442695040888963407) % 18446744073709551616 := by
  unfold lotNext; rw [UInt64.toNat_add, UInt64.toNat_mul]; rfl
theorem lot_wrap (s : UInt64) : IntKind.u64.wrap (IntKind.u64.wrap ((s.toNat : Int) * 6364136223846793005) + 1442695040888963407) = ((lotNext s).toNat : Int) := by
  rw [IntKind.wrap_u64, IntKind.wrap_u64, lot_next]; omega
theorem lot_sg (s : UInt64) : wrap64 (wrap64 (sg s.toNat * 6364136223846793005) + 1442695040888963407) = sg (lotNext s).toNat := by
  have h := s.toNat_lt
  rw [lot_next]
  generalize s.toNat = x at *
  unfold sg wrap64
  split <;> split <;> omega
theorem below_none (n : Int) (w : World) : Calls Try.prog 25 #[.pointer none, .int .i64 n] w fun e w' => e = .returned (.int .i64 0) ∧ w = w' := by
  go_enter Try.func25, Try.ntmps25
  go_wp2
  go_ret
  exact ⟨rfl, rfl⟩
theorem below_any (g : Nat) (s : UInt64) (n : Int) (w : World) (h : LotAt w g s) :
    Calls Try.prog 25 #[.pointer (some ⟨g, 0, none⟩), .int .i64 n] w fun e w' => e = .returned (.int .i64 (lotB s n).2) ∧ LotAt w' g (lotB s n).1 ∧ w.grownBy w' (some g) ∧ w'.heap.size = w.heap.size := by
  unfold lotB
  by_cases hn : n < 1
  · rw [if_pos hn]
    go_enter Try.func25, Try.ntmps25
    go_wp2
    go_ret
    exact ⟨rfl, h, World.grownBy.refl _ _, rfl⟩
  · rw [if_neg hn]
    have hc : w.cell? ⟨g, 0, none⟩ = some (.int .u64 (s.toNat : Int)) := h.cell 0
    have hf := h.frozen 0
    have hl := lot_wrap s
    have hlt := (lotNext s).toNat_lt
    have hset := Lib.hid (h.set_ 0 (.int .u64 ((lotNext s).toNat : Int)))
    have hm1 : wrap64 (((lotNext s).toNat : Int) / 8589934592) = (((lotNext s).toNat / 8589934592 : Nat) : Int) := by unfold wrap64; omega
    have hnz : n ≠ 0 := by omega
    have htm : Int.tmod (((lotNext s).toNat / 8589934592 : Nat) : Int) n = (((lotNext s).toNat / 8589934592 : Nat) : Int) % n := Int.tmod_eq_emod_of_nonneg (by omega)
    clear h
    generalize lotNext s = t at *
    go_enter Try.func25, Try.ntmps25
    go_wp2
    go_ret
    refine ⟨ret_int ?_, hset.out, grown_setCell _, by simp [World.setCell]⟩
    first | rfl | trace_state

set_option maxRecDepth 100000 in
theorem refbelow_any (g : Nat) (s : UInt64) (n : Int) (w : World) (h : RLotAt w g s) :
    Calls Try.prog 28 #[.pointer (some ⟨g, 0, none⟩), .int .i64 n] w fun e w' => e = .returned (.int .i64 (lotB s n).2) ∧ RLotAt w' g (lotB s n).1 ∧ Keep (· = g) w w' := by
  unfold lotB
  by_cases hn : n < 1
  · rw [if_pos hn]
    go_enter Try.func28, Try.ntmps28
    go_wp2
    go_ret
    exact ⟨rfl, h, Keep.refl _ _⟩
  · rw [if_neg hn]
    have hc : w.cell? ⟨g, 0, none⟩ = some (.int .i64 (sg s.toNat)) := h.cell 0
    have hsr : -9223372036854775808 ≤ sg s.toNat ∧ sg s.toNat ≤ 9223372036854775807 := by have := s.toNat_lt; unfold sg; split <;> omega
    have hmul := fun w => refmul03_any (sg s.toNat) 6364136223846793005 w hsr (by omega)
    have hadd := fun w => refadd03_any (wrap64 (sg s.toNat * 6364136223846793005)) 1442695040888963407 w (wrap64_in' _) (by omega)
    rw [lot_sg] at hadd
    have hH := Lib.hid h
    have htn := (lotNext s).toNat_lt
    have hbits := fun w => allbits_any (sg (lotNext s).toNat) w (by unfold sg; split <;> omega) (by unfold sg; split <;> omega)
    rw [un_sg htn] at hbits
    have hfin : (((lotNext s).toNat / 8589934592 : Nat) : Int) % n = Int.tmod (((lotNext s).toNat / 8589934592 : Nat) : Int) n := (Int.tmod_eq_emod_of_nonneg (by omega)).symm
    have hnz : n ≠ 0 := by omega
    clear h hsr
    generalize wrap64 (sg s.toNat * 6364136223846793005) = M at *
    generalize lotNext s = T at *
    generalize hS : sg T.toNat = S at *
    replace hS := Lib.hid hS
    generalize hTU : T.toNat = U at *
    replace hTU := Lib.hid hTU
    go_enter Try.func28, Try.ntmps28
    go_wp2_with (first
      | ((go_at_call 68; (with_reducible refine (hmul _).mono ?_); rintro e w1 ⟨rfl, hb1⟩); have h1 := Blk.below hH.out hb1 (Blk.lt hH.out); have h1c : w1.cell? ⟨g, 0, none⟩ = some (.int .i64 (sg s.toNat)) := h1.cell 0; have hb1s := hb1.size)
      | ((go_at_call 67; (with_reducible refine (hadd _).mono ?_); rintro e w2 ⟨rfl, hb2⟩); have h2 := h1.below hb2 h1.lt; have h2c : w2.cell? ⟨g, 0, none⟩ = some (.int .i64 (sg s.toNat)) := h2.cell 0; have h2f := h2.frozen 0; have h3 : RLotAt (w2.setCell ⟨g, 0, none⟩ (.int .i64 S)) g T := (by have := h2.set_ 0 (.int .i64 S); unfold RLotAt; rw [hTU.out, hS.out]; exact this); have k2 : Keep (· = g) w w2 := ((Keep.of_below hb1).trans (G := (· = g)) (Keep.of_below hb2) (fun _ _ e => e)); have K2 : Keep (· = g) w (w2.setCell ⟨g, 0, none⟩ (.int .i64 S)) := (k2.trans (G := (· = g)) (Keep.of_grown (grown_setCell _) (fun x e => (by injection e with e; exact e.symm))) (fun _ _ e => e)); have hb2s := hb2.size; clear h1 h2 k2; have H3 := Lib.hid h3; clear h3)
      | ((go_at_call 69; (with_reducible refine (hbits _).mono ?_); rintro e w4 ⟨A4, c4, rfl, own4, hb4⟩)))
    have K4 : Keep (· = g) w w4 := K2.trans (G := (· = g)) (Keep.of_below hb4) (fun _ _ e => e)
    have H4 := Lib.hid (H3.out.below hb4 H3.out.lt)
    obtain ⟨g4, rfl, _, hg4⟩ := own4.addr (by omega)
    have hc4 : ∀ k, k < 64 → Hid (w4.cell? ⟨g4, k, none⟩ = some (.int .i64 (bit U k : Nat))) := fun k hk => own4.tab_cell hk
    clear own4 hbits hadd hmul K2 hb4 hb1 hb2 hb1s hb2s h1c h2c h2f H3 hH hc
    go_loop [6, 7] (fun v i => ∃ k x, k ≤ 31 ∧ i = .int .i64 (63 - (k : Nat)) ∧ v = .int .i64 (x : Nat) ∧ Hid (x = U / 2 ^ (64 - k)) ∧ x ≤ 2147483647) (fun _ i => (intOf i).toNat)
    case atStart => exact ⟨0, 0, by omega, rfl, rfl, by show 0 = _; omega, by omega⟩
    case round =>
      obtain ⟨k, x, hk, rfl, rfl, hx, hx2⟩ := hrel
      by_cases hlt : k < 31
      · have d := (hc4 (63 - k) (by omega)).out
        have hx3 : Hid (2 * x + bit U (63 - k) = U / 2 ^ (64 - (k + 1))) := by
          show _ = _
          rw [hx.out, show 64 - k = (63 - k) + 1 from by omega, show 64 - (k + 1) = 63 - k from by omega, Nat.pow_succ, ← Nat.div_div_eq_div_mul]
          unfold bit; omega
        have hx4 : 2 * x + bit U (63 - k) ≤ 2147483647 := by
          rw [hx3.out]
          have h1 : 2 ^ 33 ≤ 2 ^ (64 - (k + 1)) := Nat.pow_le_pow_right (by omega) (by omega)
          have h2 : U / 2 ^ (64 - (k + 1)) ≤ U / 2 ^ 33 := Nat.div_le_div_left h1 (by omega)
          have h3 : U / 2 ^ 33 ≤ 2147483647 := by omega
          omega
        generalize bit U (63 - k) = y at *
        have e1 : ((63 - k : Nat) : Int) = 63 - (k : Int) := by omega
        clear hc4
        go_wp2
        go_round
        case rel => exact ⟨k + 1, 2 * x + y, by omega, by go_num, by go_num, hx3, hx4⟩
        case measure => simp [intOf]; omega
      · have hk9 : k = 31 := by omega
        subst hk9
        have hx9 : Hid (((x : Nat) : Int) % n = ((U / 8589934592 : Nat) : Int) % n) := by
          show _ = _
          rw [hx.out]
        clear hc4
        go_wp2
        go_ret
        exact ⟨ret_int hx9.out, H4.out, K4⟩
end Go.Proofs.Ytkhihgilodhjfaa
