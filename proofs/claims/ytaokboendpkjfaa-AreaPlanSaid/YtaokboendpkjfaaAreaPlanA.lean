/- Contracts of area.Plan, of the reference's Log and of the law's helpers. -/
import Derived.Test.YtaokboendpkjfaaBase
namespace Go.Proofs.Ytaokboendpkjfaa
open Go.RowKit

def logN (s : Int) : Int := if s > 4096 ∨ s < 13 then 0 else if (s - 11) / 2 > 1024 then 1024 else (s - 11) / 2

theorem plan_no (s : Int) (w : World) (h : s < 13 ∨ 4096 < s) :
    Calls Try.prog 43 #[.int .i64 s] w fun e w' => e = .returned (.tuple #[.agg (#[.int .i64 0,.int .i64 0,.int .i64 0,.int .i64 0,.int .i64 0,.int .i64 0,.int .i64 0,.int .i64 0,.int .i64 0,.int .i64 0]), .int .i64 2]) ∧ Below w.heap.size w w' := by
  rcases h with h | h
  all_goals
    go_enter Try.func43, Try.ntmps43
    go_wp2
    exact bodyPost_ret (v := .tuple #[.agg (#[.int .i64 0,.int .i64 0,.int .i64 0,.int .i64 0,.int .i64 0,.int .i64 0,.int .i64 0,.int .i64 0,.int .i64 0,.int .i64 0]), .int .i64 2]) (by simp [results, Try.results43, go_sem]) rfl ⟨rfl, by go_grown⟩

theorem plan_yes (s : Int) (w : World) (h : 13 ≤ s) (h2 : s ≤ 4096) :
    Calls Try.prog 43 #[.int .i64 s] w fun e w' => e = .returned (.tuple #[.agg (#[.int .i64 0,.int .i64 1,.int .i64 1,.int .i64 5,.int .i64 6,.int .i64 5,.int .i64 11,.int .i64 (logN s),.int .i64 (11 + logN s),.int .i64 (logN s)]), .int .i64 0]) ∧ Below w.heap.size w w' := by
  have hl : (logN s = (s - 11) / 2 ∧ (s - 11) / 2 ≤ 1024) ∨ (logN s = 1024 ∧ 1024 < (s - 11) / 2) := by
    unfold logN; rw [if_neg (by omega)]; split <;> omega
  rcases hl with ⟨hl, h3⟩ | ⟨hl, h3⟩
  all_goals
    rw [hl]; clear hl
    go_enter Try.func43, Try.ntmps43
    go_wp2
    refine bodyPost_ret (v := .tuple #[.agg (#[.int .i64 0,.int .i64 1,.int .i64 1,.int .i64 5,.int .i64 6,.int .i64 5,.int .i64 11,_,_,_]), .int .i64 0]) (by simp [results, Try.results43, go_sem]; try rfl) rfl ⟨rfl, by go_grown⟩

theorem log_any (s : Int) (w : World) :
    Calls Try.prog 44 #[.int .i64 s] w fun e w' => e = .returned (.int .i64 (logN s)) ∧ w = w' := by
  have hl : (logN s = 0 ∧ s < 13) ∨ (logN s = 0 ∧ 4096 < s) ∨ (logN s = (s - 11) / 2 ∧ (s - 11) / 2 ≤ 1024 ∧ 13 ≤ s ∧ s ≤ 4096) ∨ (logN s = 1024 ∧ 1024 < (s - 11) / 2 ∧ 13 ≤ s ∧ s ≤ 4096) := by
    unfold logN; split; omega; split <;> omega
  rcases hl with ⟨hl, h3⟩ | ⟨hl, h3⟩ | ⟨hl, h3, h4, h5⟩ | ⟨hl, h3, h4, h5⟩
  all_goals
    rw [hl]; clear hl
    go_enter Try.func44, Try.ntmps44
    go_wp2
    go_ret
    exact ⟨rfl, rfl⟩

theorem awake8 (w : World) :
    Calls Try.prog 42 #[] w fun e w' => e = .returned (.bool true) ∧ Below w.heap.size w w' := by
  have hl : logN 15 = 2 := by decide
  have hp := plan_yes 15
  rw [hl] at hp; clear hl
  go_enter Try.func42, Try.ntmps42
  go_wp2_with (go_at_call 43; refine (hp _ (by omega) (by omega)).mono ?_; rintro e w1 ⟨rfl, hb⟩)
  go_ret
  exact ⟨rfl, by have := hb.size; go_grown⟩

def spanCells (l : List Int) : Array Value := (l.map (Value.int .i64)).toArray
theorem parts_any (a0 a1 a2 a3 a4 a5 a6 a7 a8 a9 : Int) (w : World) :
    Calls Try.prog 45 #[.agg #[.int .i64 a0,.int .i64 a1,.int .i64 a2,.int .i64 a3,.int .i64 a4,.int .i64 a5,.int .i64 a6,.int .i64 a7,.int .i64 a8,.int .i64 a9]] w fun e w' => ∃ b, e = .returned (.slice (some ⟨b, 0, none⟩) 5 5) ∧ w.heap.size ≤ b ∧ w'.heap[b]? = some (.cells (spanCells [a0,a1,a2,a3,a4,a5,a6,a7,a8,a9]) 56 (0, 0)) ∧ Below w.heap.size w w' := by
  go_enter Try.func45, Try.ntmps45
  go_wp2
  go_ret
  exact ⟨w.heap.size + 1, rfl, by omega, heap_alloc2 _ _ _, by go_grown⟩
end Go.Proofs.Ytaokboendpkjfaa
