/- Contracts of package stat: one event; one event more; all events. -/
import Derived.Test.YtalmdccgpigppaaStatA
namespace Go.Proofs.Ytalmdccgpigppaa
open Go.RowKit
set_option linter.unusedVariables false
set_option linter.unusedSimpArgs false

set_option maxRecDepth 100000 in
set_option maxHeartbeats 8000000 in
theorem one_any (k en : Int) (A1 A2 : Option Addr) (n1 c1 n2 c2 : Nat) (e n : Int) (w : World) (hn : -9223372036854775808 ≤ n ∧ n ≤ 9223372036854775807) :
    Calls Try.prog 87 #[.agg #[.int .i64 k, .int .i64 en, .slice A1 n1 c1, .slice A2 n2 c2], .agg #[.int .i64 e, .int .i64 n]] w fun x w' => x = .returned (.agg #[.int .i64 ((oneT k e n) 0), .int .i64 ((oneT k e n) 1), .int .i64 ((oneT k e n) 2), .int .i64 ((oneT k e n) 3), .int .i64 ((oneT k e n) 4), .int .i64 ((oneT k e n) 5), .int .i64 ((oneT k e n) 6), .int .i64 ((oneT k e n) 7), .int .i64 ((oneT k e n) 8), .int .i64 ((oneT k e n) 9)]) ∧ Below w.heap.size w w' := by
  have hwn : IntKind.i64.wrap n = n := by rw [IntKind.wrap_i64]; omega
  clear hn
  obtain ⟨O, hO⟩ : ∃ O, O = oneT k e n := ⟨_, rfl⟩
  rw [← hO]
  have HO := Lib.hid hO
  clear hO
  have hk : k = 1 ∨ k = 2 ∨ k = 3 ∨ k = 5 ∨ (k ≠ 1 ∧ k ≠ 2 ∧ k ≠ 3 ∧ k ≠ 5) := by omega
  have he : e = 41 ∨ e = 52 ∨ e = 2 ∨ e = 50 ∨ e = 1 ∨ e = 0 ∨ (e ≠ 41 ∧ e ≠ 52 ∧ e ≠ 2 ∧ e ≠ 50 ∧ e ≠ 1 ∧ e ≠ 0) := by omega
  rcases he with rfl | rfl | rfl | rfl | rfl | rfl | ⟨e1, e2, e3, e4, e5, e6⟩
  case inr.inr.inr.inr.inr.inr =>
    have f1 : (e == 41) = false := by simp [e1]
    have f2 : (e == 52) = false := by simp [e2]
    have f3 : (e == 2) = false := by simp [e3]
    have f4 : (e == 50) = false := by simp [e4]
    have f5 : (e == 1) = false := by simp [e5]
    have f6 : (e == 0) = false := by simp [e6]
    rcases hk with rfl | rfl | rfl | rfl | ⟨d1, d2, d3, d4⟩
    case inr.inr.inr.inr =>
      have g1 : (k == 1) = false := by simp [d1]
      have g2 : (k == 2) = false := by simp [d2]
      have g3 : (k == 3) = false := by simp [d3]
      have g4 : (k == 5) = false := by simp [d4]
      have D1 := Lib.hid d1
      have D2 := Lib.hid d2
      have D3 := Lib.hid d3
      have D4 := Lib.hid d4
      have E1 := Lib.hid e1
      have E2 := Lib.hid e2
      have E3 := Lib.hid e3
      have E4 := Lib.hid e4
      have E5 := Lib.hid e5
      have E6 := Lib.hid e6
      clear d1 d2 d3 d4 e1 e2 e3 e4 e5 e6
      go_enter Try.func87, Try.ntmps87
      go_wp2
      refine bodyPost_ret (v := .agg #[.int .i64 (O 0), .int .i64 (O 1), .int .i64 (O 2), .int .i64 (O 3), .int .i64 (O 4), .int .i64 (O 5), .int .i64 (O 6), .int .i64 (O 7), .int .i64 (O 8), .int .i64 (O 9)]) (by simp [results, Try.results87, go_sem, HO.out, oneT, D1.out, D2.out, D3.out, D4.out, E1.out, E2.out, E3.out, E4.out, E5.out, E6.out]) rfl ?_
      exact ⟨rfl, (by (repeat' (first | (with_reducible exact Below.refl _ _) | (with_reducible assumption) | (with_reducible refine Below.drew ?_) | (with_reducible refine below_drewN ?_ _) | (with_reducible refine Below.alloc ?_ ?_ _) | (with_reducible refine Below.setCell ?_ ?_ _) | omega | (simp; done) | (simp; omega))))⟩
    all_goals
      have E1 := Lib.hid e1
      have E2 := Lib.hid e2
      have E3 := Lib.hid e3
      have E4 := Lib.hid e4
      have E5 := Lib.hid e5
      have E6 := Lib.hid e6
      clear e1 e2 e3 e4 e5 e6
      go_enter Try.func87, Try.ntmps87
      first
        | (go_wp2
           refine bodyPost_ret (v := .agg #[.int .i64 (O 0), .int .i64 (O 1), .int .i64 (O 2), .int .i64 (O 3), .int .i64 (O 4), .int .i64 (O 5), .int .i64 (O 6), .int .i64 (O 7), .int .i64 (O 8), .int .i64 (O 9)]) (by simp [results, Try.results87, go_sem, HO.out, oneT, hwn, E1.out, E2.out, E3.out, E4.out, E5.out, E6.out]) rfl ?_
           exact ⟨rfl, (by (repeat' (first | (with_reducible exact Below.refl _ _) | (with_reducible assumption) | (with_reducible refine Below.drew ?_) | (with_reducible refine below_drewN ?_ _) | (with_reducible refine Below.alloc ?_ ?_ _) | (with_reducible refine Below.setCell ?_ ?_ _) | omega | (simp; done) | (simp; omega))))⟩)
        | (go_upto_region 21 with fail
           go_region
           all_goals
             go_wp2
             refine bodyPost_ret (v := .agg #[.int .i64 (O 0), .int .i64 (O 1), .int .i64 (O 2), .int .i64 (O 3), .int .i64 (O 4), .int .i64 (O 5), .int .i64 (O 6), .int .i64 (O 7), .int .i64 (O 8), .int .i64 (O 9)]) (by simp [results, Try.results87, go_sem, HO.out, oneT, hwn, E1.out, E2.out, E3.out, E4.out, E5.out, E6.out]) rfl ?_
             exact ⟨rfl, (by (repeat' (first | (with_reducible exact Below.refl _ _) | (with_reducible assumption) | (with_reducible refine Below.drew ?_) | (with_reducible refine below_drewN ?_ _) | (with_reducible refine Below.alloc ?_ ?_ _) | (with_reducible refine Below.setCell ?_ ?_ _) | omega | (simp; done) | (simp; omega))))⟩)
  all_goals
    rcases hk with rfl | rfl | rfl | rfl | ⟨d1, d2, d3, d4⟩
  all_goals first
    | (have g1 : (k == 1) = false := by simp [d1]
       have g2 : (k == 2) = false := by simp [d2]
       have g3 : (k == 3) = false := by simp [d3]
       have g4 : (k == 5) = false := by simp [d4]
       have D1 := Lib.hid d1
       have D2 := Lib.hid d2
       have D3 := Lib.hid d3
       have D4 := Lib.hid d4
       clear d1 d2 d3 d4
       go_enter Try.func87, Try.ntmps87
       go_wp2
       refine bodyPost_ret (v := .agg #[.int .i64 (O 0), .int .i64 (O 1), .int .i64 (O 2), .int .i64 (O 3), .int .i64 (O 4), .int .i64 (O 5), .int .i64 (O 6), .int .i64 (O 7), .int .i64 (O 8), .int .i64 (O 9)]) (by simp [results, Try.results87, go_sem, HO.out, oneT, D1.out, D2.out, D3.out, D4.out]) rfl ?_
       exact ⟨rfl, (by (repeat' (first | (with_reducible exact Below.refl _ _) | (with_reducible assumption) | (with_reducible refine Below.drew ?_) | (with_reducible refine below_drewN ?_ _) | (with_reducible refine Below.alloc ?_ ?_ _) | (with_reducible refine Below.setCell ?_ ?_ _) | omega | (simp; done) | (simp; omega))))⟩)
    | (go_enter Try.func87, Try.ntmps87
       go_wp2
       refine bodyPost_ret (v := .agg #[.int .i64 (O 0), .int .i64 (O 1), .int .i64 (O 2), .int .i64 (O 3), .int .i64 (O 4), .int .i64 (O 5), .int .i64 (O 6), .int .i64 (O 7), .int .i64 (O 8), .int .i64 (O 9)]) (by simp [results, Try.results87, go_sem, HO.out, oneT, hwn]) rfl ?_
       exact ⟨rfl, (by (repeat' (first | (with_reducible exact Below.refl _ _) | (with_reducible assumption) | (with_reducible refine Below.drew ?_) | (with_reducible refine below_drewN ?_ _) | (with_reducible refine Below.alloc ?_ ?_ _) | (with_reducible refine Below.setCell ?_ ?_ _) | omega | (simp; done) | (simp; omega))))⟩)
    | (go_enter Try.func87, Try.ntmps87
       go_upto_region 21 with fail
       go_region
       all_goals
         go_wp2
         refine bodyPost_ret (v := .agg #[.int .i64 (O 0), .int .i64 (O 1), .int .i64 (O 2), .int .i64 (O 3), .int .i64 (O 4), .int .i64 (O 5), .int .i64 (O 6), .int .i64 (O 7), .int .i64 (O 8), .int .i64 (O 9)]) (by simp [results, Try.results87, go_sem, HO.out, oneT, hwn]) rfl ?_
         exact ⟨rfl, (by (repeat' (first | (with_reducible exact Below.refl _ _) | (with_reducible assumption) | (with_reducible refine Below.drew ?_) | (with_reducible refine below_drewN ?_ _) | (with_reducible refine Below.alloc ?_ ?_ _) | (with_reducible refine Below.setCell ?_ ?_ _) | omega | (simp; done) | (simp; omega))))⟩)
end Go.Proofs.Ytalmdccgpigppaa
