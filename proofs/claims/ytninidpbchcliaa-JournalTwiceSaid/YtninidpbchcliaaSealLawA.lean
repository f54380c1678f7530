/- The example of chapter 7; Blank; what Make answers. -/
import Derived.Test.YtninidpbchcliaaSealC
import Derived.Test.YtninidpbchcliaaSame
namespace Go.Proofs.Ytninidpbchcliaa
open Go.RowKit

/-- What Make answers: the bytes, the error. -/
def makeL (kind n : Int) (l : List UInt8) : List UInt8 × Int :=
  if kind < 1 ∨ 255 < kind ∨ n < 0 then (zerosL, 2) else if 113 < l.length then (zerosL, 3) else (sealL kind.toNat n.toNat l, 0)
theorem makeL_len (kind n : Int) (l : List UInt8) : (makeL kind n l).1.length = 128 := by
  unfold makeL
  split
  · exact zerosL_len
  · split
    · exact zerosL_len
    · exact sealL_len _ _ _ (by omega)
theorem un_nat {n : Int} (h0 : 0 ≤ n) (h1 : n ≤ 9223372036854775807) : un n = n.toNat := by unfold un; omega
theorem make_any (kind n : Int) (A : Option Addr) (m c : Nat) (l : List UInt8) (w : World) (hn : n ≤ 9223372036854775807) (hm : m ≤ maxLen) (hl : RB w A m l) :
    Calls Try.prog 84 #[.int .i64 kind, .int .i64 n, .slice A m c] w fun e w' => e = .returned (.tuple #[aggB (makeL kind n l).1, .int .i64 (makeL kind n l).2]) ∧ Below w.heap.size w w' := by
  unfold makeL
  by_cases h : kind < 1 ∨ 255 < kind ∨ n < 0
  · rw [if_pos h]; exact make_arg kind n A m c w h
  · rw [if_neg h]
    by_cases h2 : 113 < l.length
    · rw [if_pos h2]; exact make_limit kind n A m c w (by omega) (by omega) (by omega) (by rw [← hl.1]; exact h2) hm
    · rw [if_neg h2]
      have := make_ok kind n A m c l w (by omega) (by omega) (by omega) (by rw [← hl.1]; omega) hl
      rwa [un_nat (by omega) hn] at this

theorem zeros_zero : zerosL.all (· == 0) = true := by decide
set_option maxRecDepth 100000 in
set_option maxHeartbeats 1000000 in
theorem blank_any (l : List UInt8) (w : World) (hl : l.length = 128) : Calls Try.prog 112 #[aggB l] w fun e w' => e = .returned (.bool (decide (l = zerosL))) ∧ Below w.heap.size w w' := by
  have hq := fun w => eq128 l zerosL hl zerosL_len w
  have hbu : ∀ w : World, (Instr.build 33 #[]).run Try.prog w = .ok (aggB zerosL) w := fun w => run_build w _ _ _ (by kernel_rfl)
  have HL := Lib.hid (show (l.map bv).length = 128 by simpa using hl)
  generalize decide (l = zerosL) = b at *
  have hz := (zero_of_info zero128).1
  have Hi := Lib.hid (zero_of_info zero128).2
  have Hz := Lib.hid (show (zerosL.map bv).length = 128 by simp [zerosL_len])
  unfold aggB at hz
  generalize zerosL.map bv = Z at *
  unfold aggB at *
  generalize zerosL.map bv = Z at *
  generalize hC : l.map bv = C at *
  clear hC hl
  go_enter Try.func112, Try.ntmps112
  go_wp2_with (refine wpList_load_arr rfl (x := .tmp 1) rfl rfl (t := 33) (cs := C) (Blk.top _ rfl rfl) Try.underlying33 Hi.out HL.out (xs := C) (by rw [List.drop_zero, List.take_of_length_le (by rw [HL.out]; omega)]) ?_)
  go_ret
  exact ⟨rfl, (by (repeat' (first | (with_reducible exact Below.refl _ _) | (with_reducible assumption) | (with_reducible refine Below.drew ?_) | (with_reducible refine below_drewN ?_ _) | (with_reducible refine Below.alloc ?_ ?_ _) | (with_reducible refine Below.setCell ?_ ?_ _) | omega | (simp; done) | (simp; omega))))⟩
end Go.Proofs.Ytninidpbchcliaa
