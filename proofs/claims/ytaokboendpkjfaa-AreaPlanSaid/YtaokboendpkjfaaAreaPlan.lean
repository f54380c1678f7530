/- AreaPlan: the plan of any number of sectors is the document's. -/
import Derived.Test.YtaokboendpkjfaaAreaPlanA
import Derived.Test.YtaokboendpkjfaaFrame
import Derived.LoopN
namespace Go.Proofs.Ytaokboendpkjfaa.areaPlan
open Go.ChangeShapes Go.WideShapes Go.ChangeAt Go.RowKit
set_option linter.unusedVariables false

theorem walk_no (s : Int) (w0 : (Lit.int .i64 s).wf = true) (w : World) (h : s < 13 ∨ 4096 < s) :
    Calls Try.prog 14 #[.int .i64 s] w fun e w' => e = .returned (.bool true) ∧ Below w.heap.size w w' := by
  have hl : logN s = 0 := by unfold logN; rw [if_pos (by omega)]
  have hb := bounds_i64 w0
  go_enter Try.func14, Try.ntmps14
  go_wp2_with (first | (go_at_call 42; refine (awake8 _).mono ?_; rintro e w1 ⟨rfl, hb1⟩; have hs1 := hb1.size) | (go_at_call 43; refine (plan_no _ _ h).mono ?_; rintro e w2 ⟨rfl, hb2⟩; have hs2 := hb2.size; have hb3 := hb1.trans (hb2.mono hs1)) | (go_at_call 44; refine (log_any _ _).mono ?_; rw [hl]; rintro e w3 ⟨rfl, rfl⟩))
  go_ret
  exact ⟨rfl, (by (repeat' (first | (with_reducible exact Below.refl _ _) | (with_reducible assumption) | (with_reducible refine Below.drew ?_) | (with_reducible refine below_drewN ?_ _) | (with_reducible refine Below.alloc ?_ ?_ _) | (with_reducible refine Below.setCell ?_ ?_ _) | omega | (simp; done) | (simp; omega))))⟩

def at_ (n : Int) (k : Nat) : Int := match k with | 0 => 0 | 1 => 1 | 2 => 6 | 3 => 11 | 4 => 11 + n | _ => 11 + n + n
theorem walk_yes (s : Int) (w : World) (h : 13 ≤ s) (h2 : s ≤ 4096) :
    Calls Try.prog 14 #[.int .i64 s] w fun e w' => e = .returned (.bool true) ∧ Below w.heap.size w w' := by
  have hl : 1 ≤ logN s ∧ logN s ≤ 1024 := by unfold logN; rw [if_neg (by omega)]; split <;> omega
  generalize hn : logN s = n at hl
  have hn0 : (n == 0) = false := by rw [beq_eq_false_iff_ne]; omega
  go_enter Try.func14, Try.ntmps14
  go_wp2_with (first | (go_at_call 42; refine (awake8 _).mono ?_; rintro e w1 ⟨rfl, hb1⟩; have hs1 := hb1.size) | (go_at_call 43; refine (plan_yes _ _ h h2).mono ?_; rw [hn]; rintro e w2 ⟨rfl, hb2⟩; have hs2 := hb2.size) | (go_at_call 44; refine (log_any _ _).mono ?_; rw [hn]; rintro e w3 ⟨rfl, rfl⟩) | (go_at_call 45; refine (parts_any _ _ _ _ _ _ _ _ _ _ _).mono ?_; rintro e w3 ⟨b, rfl, hbl, hblk, hb3⟩))
  have hb : Below w.heap.size w w3 := by
    have hs3 := hb3.size
    simp only [World.size_alloc] at hs3 hbl hb3
    refine Below.trans (Below.trans hb1 ((Below.mono hb2 hs1).alloc (by omega) _)) (hb3.mono (by omega))
  have hbw : w.heap.size ≤ b ∧ w.heap.size ≤ w3.heap.size := by
    have hs3 := hb3.size
    simp only [World.size_alloc] at hs3 hbl; omega
  clear hb1 hb2 hb3 hbl hs1 hs2
  go_loopw [6, 31] (fun a i wr => ∃ k : Nat, k ≤ 5 ∧ i = .int .i64 k ∧ a = .int .i64 (at_ n k) ∧ wr.heap[b]? = some (.cells (spanCells [0, 1, 1, 5, 6, 5, 11, n, 11 + n, n]) 56 (0, 0)) ∧ Below w.heap.size w wr ∧ b < wr.heap.size) (fun _ i _ => 5 - (intOf i).toNat)
  case atStart => exact ⟨0, by omega, rfl, rfl, hblk, hb, lt_of_block hblk⟩
  case round =>
    obtain ⟨k, hk, rfl, rfl, hblk, hb, hlt⟩ := hrel
    have c0 := cell_of_row wr b (2 * k) _ _ _ hblk
    have c1 := cell_of_row wr b (2 * k + 1) _ _ _ hblk
    have hsz := hb.size
    rcases (by omega : k = 0 ∨ k = 1 ∨ k = 2 ∨ k = 3 ∨ k = 4 ∨ k = 5) with rfl | rfl | rfl | rfl | rfl | rfl
    case inr.inr.inr.inr.inr =>
      simp only [at_]
      clear c0 c1
      have hfin : n = 1024 ∨ (¬ n = 1024 ∧ s - (11 + n + n) < 2) := by rw [← hn]; unfold logN; rw [if_neg (by omega)]; split <;> omega
      have hle : 11 + n + n ≤ s := by rw [← hn]; unfold logN; rw [if_neg (by omega)]; split <;> omega
      rcases hfin with h1 | ⟨h1, h2⟩
      all_goals
        have hd : (n == 1024) = decide (n = 1024) := rfl
        simp only [h1, decide_true, decide_false] at hd
        go_wp2
        all_goals
          go_ret
          exact ⟨rfl, hb⟩
    all_goals
      simp only [at_]
      simp [spanCells] at c0 c1
      go_wp2
      go_quiet (fail)
      go_wp2
      go_roundw
      case rel => exact ⟨_ + 1, by omega, rfl, by go_num, heap_old _ _ _ (heap_old _ _ _ hblk), (by (repeat' (first | (with_reducible exact Below.refl _ _) | (with_reducible assumption) | (with_reducible refine Below.drew ?_) | (with_reducible refine below_drewN ?_ _) | (with_reducible refine Below.alloc ?_ ?_ _) | (with_reducible refine Below.setCell ?_ ?_ _) | omega | (simp; done) | (simp; omega)))), by simp; omega⟩
      case measure => simp [intOf]
theorem walk (w : World) (s : Int) (w0 : (Lit.int .i64 s).wf = true) :
    Calls Try.prog 14 #[.int .i64 s] w fun e w' => e = .returned (.bool true) ∧ Below w.heap.size w w' := by
  by_cases h : s < 13 ∨ 4096 < s
  · exact walk_no s w0 w h
  · exact walk_yes s w (by omega) (by omega)

--FRAME tompionlaw08 AreaPlan areaPlan walk i64
theorem own : ownKnob Try.prog.godebug = none := by kernel_rfl
theorem laidOut : laidOutB Try.prog = true := by kernel_rfl

set_option maxRecDepth 100000 in
theorem lifted (os : Os) (started : os.Started) (H : Type) (enc : TypeId × Value → H) :
    ReturnsInHanded {} Try.checked os 14 .any (Rows.areaPlanSpec.pre6 enc Try.prog Try.f14 Rows.areaPlanRow.domain false) (Rows.areaPlanSpec.post enc Try.prog Try.f14 false true false false) := by
  refine returnsInHanded_of_change (C := Try.checked) own started (by kernel_rfl) Try.func14
    (ChangeSpec.witness6 (enc := enc) (C := Try.checked) false ⟨#[], #[.int .i64 0], []⟩ 8 (by kernel_rfl) (by kernel_rfl) (by kernel_rfl) (by kernel_rfl)) ?_
  intro W base args ds gs before hval0 hW hcnd _
  have hval : ∀ (j : Nat) t v, Try.f14.params[j]? = some t → args[j]? = some v → Value.okWide Try.prog W .any base t v := hval0
  have hW' := hW
  obtain ⟨p, q, hA0, hV, rfl, hfz, hnd⟩ := hW
  have hA : DataW.TrodAll enc Try.prog W 0 (fun _ => true) true Try.f14.params.toList args.toList ds p := hA0
  rw [Try.params14] at hA hval
  obtain ⟨v0, vs0, d0, ds0, p0, q0, hargs, rfl, rfl, h0, rr0⟩ := trodAll_cons hA
  obtain ⟨rfl, rfl, rfl⟩ := trodAll_nil rr0
  obtain rfl : args = #[v0] := by cases args; simp_all
  obtain ⟨rfl, rfl⟩ := trodVars_none hV
  have k0 := h0
  have lt0 : ∀ x ∈ p0, x.block < W.heap.size := by obtain ⟨m, hm⟩ := k0; exact DataW.trod_lt m _ _ _ hm
  obtain ⟨a0, rfl, wf0⟩ := args_int Try.underlying3 (hval 0 3 v0 rfl rfl) h0
  clear hA0 hval0
  refine (walk W a0 wf0).mono fun e W' ⟨he, bel⟩ => ?_
  subst he
  exact ⟨_, rfl, _, _, _, [], _, [], hW', trodAll_mk1 (shut_bool Try.underlying4 _), (trodAll_cons_mk (Below.trod laidOut (by kernel_rfl) (of_decide_eq_true (by kernel_rfl)) k0 bel lt0) trodAll_mk0), rfl, bel.frame _, fun h => by cases h⟩

theorem over : Rows.areaPlanRow.holds Try.pinned (OpenSpec.ofChange Rows.areaPlanSpec) :=
  OpenClaim.holds_of_wide 14 Try.f14 rfl rfl rfl rfl rfl rfl rfl ⟨rfl, rfl, rfl, rfl, rfl⟩ rfl rfl rfl rfl rfl (by kernel_rfl) Try.func14 (by kernel_rfl)
    (of_decide_eq_true (by kernel_rfl)) (by unfold Func.isWrapper; first | (rw [if_pos (by decide +kernel)]; kernel_rfl) | (rw [if_neg (by decide +kernel)]; exact ⟨rfl, rfl⟩))
    (fun os started H enc _ => lifted os started H enc)

theorem proved : Rows.AreaPlanSaid := over
--ENDFRAME
end Go.Proofs.Ytaokboendpkjfaa.areaPlan
