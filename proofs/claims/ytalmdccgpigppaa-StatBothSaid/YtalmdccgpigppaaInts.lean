/- When two lists of numbers are one. -/
import Derived.Test.YtalmdccgpigppaaMem
import Derived.Test.YtalmdccgpigppaaRegion
import Derived.Deep.QuietTactic
import Derived.BigQuiet
namespace Go.Proofs.Ytalmdccgpigppaa
open Go.RowKit

theorem intAt_inj {l m : List Int} (h : l.length = m.length) (hall : ∀ i, i < l.length → intAt l i = intAt m i) : l = m := by
  apply List.ext_getElem h
  intro i h1 h2
  have := hall i h1
  simpa [intAt, List.getD_eq_getElem?_getD, h1, h2] using this
set_option maxHeartbeats 400000 in
theorem ints_any (A B : Option Addr) (n m c d : Nat) (l k : List Int) (w : World) (ha : RI w A n l) (hb : RI w B m k) (hn : n ≤ maxLen) :
    Calls Try.prog 36 #[.slice A n c, .slice B m d] w fun e w' => e = .returned (.bool (decide (l = k))) ∧ ∃ q, w' = w.drewN q := by
  unfold maxLen at hn
  by_cases hnm : n = m
  · subst hnm
    have hlen : l.length = k.length := ha.1.trans hb.1.symm
    have hl := Lib.hid ha.1
    have hk := Lib.hid hlen
    have hnn : (((n : Nat) : Int) != (n : Int)) = false := by simp
    clear hlen
    generalize hz : decide (l = k) = z
    have Hz := Lib.hid hz; clear hz
    go_enter Try.func36, Try.ntmps36
    go_wp2
    go_loopw [5] (fun i wr => ∃ j q, j ≤ n ∧ i = .int .i64 (j : Nat) ∧ Hid (∀ i, i < j → intAt l i = intAt k i) ∧ wr = w.drewN q) (fun i _ => n - (intOf i).toNat)
    case atStart => exact ⟨0, 0, Nat.zero_le _, rfl, fun i hi => absurd hi (by omega), rfl⟩
    case round =>
      obtain ⟨j, q, hj, rfl, hall, rfl⟩ := hrel
      by_cases hlt : j < n
      · obtain ⟨b0, o0, rfl, _, hc0⟩ := ha.at_ hlt
        obtain ⟨b1, o1, rfl, _, hc1⟩ := hb.at_ hlt
        have hlt' : (j : Int) < n := by omega
        by_cases heq : intAt l j = intAt k j
        · have hE := Lib.hid heq
          have hne : ((intAt l j) != (intAt k j)) = false := by simp [heq]
          clear heq
          go_wp2
          go_quiet (fail)
          go_wp2
          go_roundw
          case rel =>
            refine ⟨j + 1, q + nq, by omega, by go_num, fun i hi => ?_, rfl⟩
            rcases Nat.lt_or_ge i j with h | h
            · exact hall.out i h
            · rw [show i = j from by omega]; exact hE.out
          case measure => simp [intOf]; omega
        · have hE := Lib.hid heq
          have hne : ((intAt l j) != (intAt k j)) = true := by
            rw [bne_iff_ne]; exact heq
          clear heq
          go_wp2
          go_quiet (fail)
          go_wp2
          go_ret
          refine ⟨ret_bool ?_, q + nq, World.drewN_drewN _ _ _⟩
          rw [← Hz.out, eq_comm, decide_eq_false_iff_not]
          rintro rfl
          exact hE.out rfl
      · go_wp2
        go_ret
        refine ⟨ret_bool ?_, _, rfl⟩
        rw [← Hz.out, eq_comm, decide_eq_true_eq]
        exact intAt_inj hk.out (fun i hi => hall.out i (by have := hl.out; omega))
  · have hne : (((n : Nat) : Int) != (m : Int)) = true := by rw [bne_iff_ne]; omega
    have hz : decide (l = k) = false := by
      rw [decide_eq_false_iff_not]; rintro rfl; exact hnm (ha.1.symm.trans hb.1)
    rw [hz]
    clear hz hnm
    go_enter Try.func36, Try.ntmps36
    go_wp2
    go_ret
    exact ⟨rfl, 0, rfl⟩
end Go.Proofs.Ytalmdccgpigppaa
