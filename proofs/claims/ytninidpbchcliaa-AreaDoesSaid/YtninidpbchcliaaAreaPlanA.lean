/- Contracts of area.Plan, of the reference's Log and of the law's helpers. -/
import Derived.Test.YtninidpbchcliaaBase
namespace Go.Proofs.Ytninidpbchcliaa
open Go.RowKit

def logN (s : Int) : Int := if s > 4096 ∨ s < 13 then 0 else if (s - 11) / 2 > 1024 then 1024 else (s - 11) / 2

theorem plan_no (s : Int) (w : World) (h : s < 13 ∨ 4096 < s) :
    Calls Try.prog 81 #[.int .i64 s] w fun e w' => e = .returned (.tuple #[.agg (#[.int .i64 0,.int .i64 0,.int .i64 0,.int .i64 0,.int .i64 0,.int .i64 0,.int .i64 0,.int .i64 0,.int .i64 0,.int .i64 0]), .int .i64 2]) ∧ Below w.heap.size w w' := by
  rcases h with h | h
  all_goals
    go_enter Try.func81, Try.ntmps81
    go_wp2
    exact bodyPost_ret (v := .tuple #[.agg (#[.int .i64 0,.int .i64 0,.int .i64 0,.int .i64 0,.int .i64 0,.int .i64 0,.int .i64 0,.int .i64 0,.int .i64 0,.int .i64 0]), .int .i64 2]) (by simp [results, Try.results81, go_sem]) rfl ⟨rfl, by go_grown⟩

theorem plan_yes (s : Int) (w : World) (h : 13 ≤ s) (h2 : s ≤ 4096) :
    Calls Try.prog 81 #[.int .i64 s] w fun e w' => e = .returned (.tuple #[.agg (#[.int .i64 0,.int .i64 1,.int .i64 1,.int .i64 5,.int .i64 6,.int .i64 5,.int .i64 11,.int .i64 (logN s),.int .i64 (11 + logN s),.int .i64 (logN s)]), .int .i64 0]) ∧ Below w.heap.size w w' := by
  have hl : (logN s = (s - 11) / 2 ∧ (s - 11) / 2 ≤ 1024) ∨ (logN s = 1024 ∧ 1024 < (s - 11) / 2) := by
    unfold logN; rw [if_neg (by omega)]; split <;> omega
  rcases hl with ⟨hl, h3⟩ | ⟨hl, h3⟩
  all_goals
    rw [hl]; clear hl
    go_enter Try.func81, Try.ntmps81
    go_wp2
    refine bodyPost_ret (v := .tuple #[.agg (#[.int .i64 0,.int .i64 1,.int .i64 1,.int .i64 5,.int .i64 6,.int .i64 5,.int .i64 11,_,_,_]), .int .i64 0]) (by simp [results, Try.results81, go_sem]; try rfl) rfl ⟨rfl, by go_grown⟩

theorem awake8 (w : World) :
    Calls Try.prog 37 #[] w fun e w' => e = .returned (.bool true) ∧ Below w.heap.size w w' := by
  have hl : logN 15 = 2 := by decide
  have hp := plan_yes 15
  rw [hl] at hp; clear hl
  go_enter Try.func37, Try.ntmps37
  go_wp2_with (go_at_call 81; refine (hp _ (by omega) (by omega)).mono ?_; rintro e w1 ⟨rfl, hb⟩)
  go_ret
  exact ⟨rfl, by have := hb.size; go_grown⟩

def spanCells (l : List Int) : Array Value := (l.map (Value.int .i64)).toArray
end Go.Proofs.Ytninidpbchcliaa
