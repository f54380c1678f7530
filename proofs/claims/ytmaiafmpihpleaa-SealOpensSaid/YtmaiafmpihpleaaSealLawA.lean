/- The example of chapter 7; Blank; what Make answers. -/
import Derived.Test.YtmaiafmpihpleaaSealC
import Derived.Test.YtmaiafmpihpleaaSame
namespace Go.Proofs.Ytmaiafmpihpleaa
open Go.RowKit

/-- What Make answers: the bytes, the error. -/
def makeL (kind n : Int) (l : List UInt8) : List UInt8 × Int :=
  if kind < 1 ∨ 255 < kind ∨ n < 0 then (zerosL, 2) else if 113 < l.length then (zerosL, 3) else (sealL kind.toNat n.toNat l, 0)
theorem makeL_len (kind n : Int) (l : List UInt8) : (makeL kind n l).1.length = 128 := by
  unfold makeL
  split
  · exact zerosL_len
  · split
    · exact zerosL_len
    · exact sealL_len _ _ _ (by omega)
theorem un_nat {n : Int} (h0 : 0 ≤ n) (h1 : n ≤ 9223372036854775807) : un n = n.toNat := by unfold un; omega
theorem make_any (kind n : Int) (A : Option Addr) (m c : Nat) (l : List UInt8) (w : World) (hn : n ≤ 9223372036854775807) (hm : m ≤ maxLen) (hl : RB w A m l) :
    Calls Try.prog 16 #[.int .i64 kind, .int .i64 n, .slice A m c] w fun e w' => e = .returned (.tuple #[aggB (makeL kind n l).1, .int .i64 (makeL kind n l).2]) ∧ Below w.heap.size w w' := by
  unfold makeL
  by_cases h : kind < 1 ∨ 255 < kind ∨ n < 0
  · rw [if_pos h]; exact make_arg kind n A m c w h
  · rw [if_neg h]
    by_cases h2 : 113 < l.length
    · rw [if_pos h2]; exact make_limit kind n A m c w (by omega) (by omega) (by omega) (by rw [← hl.1]; exact h2) hm
    · rw [if_neg h2]
      have := make_ok kind n A m c l w (by omega) (by omega) (by omega) (by rw [← hl.1]; omega) hl
      rwa [un_nat (by omega) hn] at this

set_option maxRecDepth 100000 in
set_option maxHeartbeats 1000000 in
theorem awake7 (w : World) : Calls Try.prog 15 #[] w fun e w' => e = .returned (.bool true) ∧ Below w.heap.size w w' := by
  have hmk := fun w => make_any 4 0 none 0 0 [] w (by omega) (by unfold maxLen; omega) ⟨rfl, Row.nil _ _ _⟩
  have e0 : makeL 4 0 [] = (sealL 4 0 [], 0) := rfl
  rw [e0] at hmk
  have hlen : (sealL 4 0 []).length = 128 := sealL_len _ _ _ (by decide)
  have c0 := cellB (l := sealL 4 0 []) 0 (by omega)
  have c127 := cellB (l := sealL 4 0 []) 127 (by omega)
  rw [sealL_first _ _ _ (by omega)] at c0
  rw [sealL_last _ _ _ (by decide)] at c127
  have Hl := Lib.hid (show ((sealL 4 0 []).map bv).length = 128 by simpa using hlen)
  have Hm := Lib.hid (mem_bv (l := sealL 4 0 []))
  unfold aggB at hmk
  dsimp only at hmk
  generalize (sealL 4 0 []).map bv = M at *
  have hz := (zero_of_info zero128).1
  have Hi := Lib.hid (zero_of_info zero128).2
  have Hz := Lib.hid (show (zerosL.map bv).length = 128 by simp [zerosL_len])
  unfold aggB at hz
  generalize zerosL.map bv = Z at *
  clear hlen e0
  go_enter Try.func15, Try.ntmps15
  go_wp2_with (first
    | (go_at_call 16; (with_reducible refine (hmk _).mono ?_); rintro e w1 ⟨rfl, hB1⟩)
    | ((refine wpList_store_arr rfl (x := .tmp 1) (y := .tmp 5) rfl rfl rfl (t := 24) (cs := Z) (xs := M) (Blk.top _ rfl rfl) Hi.out Hl.out (by rw [Hz.out]; omega) Hm.out ?_; intro w2 hb2 hg2 hs2; rw [splice_all _ _ (by rw [Hz.out, Hl.out])] at hb2); have k0 := (hb2.cell 0).trans c0; have k127 := (hb2.cell 127).trans c127))
  go_ret
  exact ⟨rfl, below_of_only (hB1.alloc hB1.size _) hg2 (by have := hB1.size; simp; omega) hB1.size⟩

theorem zeros_zero : zerosL.all (· == 0) = true := by decide
set_option maxRecDepth 100000 in
set_option maxHeartbeats 1000000 in
theorem blank_any (l : List UInt8) (w : World) (hl : l.length = 128) : Calls Try.prog 19 #[aggB l] w fun e w' => e = .returned (.bool (decide (l = zerosL))) ∧ Below w.heap.size w w' := by
  have hq := fun w => eq128 l zerosL hl zerosL_len w
  have hbu : ∀ w : World, (Instr.build 24 #[]).run Try.prog w = .ok (aggB zerosL) w := fun w => run_build w _ _ _ (by kernel_rfl)
  have HL := Lib.hid (show (l.map bv).length = 128 by simpa using hl)
  generalize decide (l = zerosL) = b at *
  have hz := (zero_of_info zero128).1
  have Hi := Lib.hid (zero_of_info zero128).2
  have Hz := Lib.hid (show (zerosL.map bv).length = 128 by simp [zerosL_len])
  unfold aggB at hz
  generalize zerosL.map bv = Z at *
  unfold aggB at *
  generalize zerosL.map bv = Z at *
  generalize hC : l.map bv = C at *
  clear hC hl
  go_enter Try.func19, Try.ntmps19
  go_wp2_with (refine wpList_load_arr rfl (x := .tmp 1) rfl rfl (t := 24) (cs := C) (Blk.top _ rfl rfl) Try.underlying24 Hi.out HL.out (xs := C) (by rw [List.drop_zero, List.take_of_length_le (by rw [HL.out]; omega)]) ?_)
  go_ret
  exact ⟨rfl, (by (repeat' (first | (with_reducible exact Below.refl _ _) | (with_reducible assumption) | (with_reducible refine Below.drew ?_) | (with_reducible refine below_drewN ?_ _) | (with_reducible refine Below.alloc ?_ ?_ _) | (with_reducible refine Below.setCell ?_ ?_ _) | omega | (simp; done) | (simp; omega))))⟩
end Go.Proofs.Ytmaiafmpihpleaa
