/- KeepDoes. -/
import Derived.Test.YtpmkpckldnnigaaGreatPr51
import Derived.Test.YtpmkpckldnnigaaGreatPr52
import Derived.Test.YtpmkpckldnnigaaGreatPr53
import Derived.IntWalk
namespace Go.Proofs.YtpmkpckldnnigaaGreat.keepDoes
open Go.ChangeShapes Go.WideShapes Go.ChangeAt Go.RowKit
set_option linter.unusedVariables false
set_option linter.unusedSimpArgs false
theorem lastKV_eq {K : KpV} (h : KpOk K) : lastKV K = K.last := by
  unfold lastKV
  cases q : K.has with
  | true => rfl
  | false => exact (h.2.1 q).symm
theorem intOk_mem {l : List Int} (h : IntOk l) : ∀ z ∈ l, -9223372036854775808 ≤ z ∧ z ≤ 9223372036854775807 := fun z hz => by
  obtain ⟨i, hi, e⟩ := List.getElem_of_mem hz
  have := h i hi
  unfold intAt at this
  rw [List.getD_eq_getElem?_getD, List.getElem?_eq_getElem hi] at this
  rw [← e]; exact this
--FRAME tompionlaw37 KeepDoes keepDoes walk bytes raw:tompion/api.Program:args_prog:.agg‹_›#[.slice‹_›none‹_›0‹_›0,‹_›.slice‹_›none‹_›0‹_›0,‹_›.int‹_›.i64‹_›0,‹_›.slice‹_›none‹_›0‹_›0,‹_›.slice‹_›none‹_›0‹_›0] raw:[]tompionlaw37.Do:args_dos37:.slice‹_›none‹_›0‹_›0
theorem own : ownKnob Tryz.prog.godebug = none := by kernel_rfl
theorem laidOut : laidOutB Tryz.prog = true := by kernel_rfl

--ENDFRAME
end Go.Proofs.YtpmkpckldnnigaaGreat.keepDoes
