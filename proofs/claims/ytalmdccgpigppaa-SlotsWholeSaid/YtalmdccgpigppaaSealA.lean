/- Contracts of the package of sealed sectors: Make. -/
import Derived.Test.YtalmdccgpigppaaNumA
import Derived.Test.YtalmdccgpigppaaCrc
import Derived.Test.YtalmdccgpigppaaPlainSeal
import Derived.Test.YtalmdccgpigppaaMem
import Derived.Deep.WholeRow
import Derived.Deep.RegionHeld3
namespace Go.Proofs.Ytalmdccgpigppaa
open Go.RowKit

theorem zero128 : (Try.prog.info? 128).map (fun i => (i.zero, i.size)) = some (some (aggB zerosL), 128) := by kernel_rfl

def KindOut (kind n : Int) : Prop := kind < 1 ∨ (1 ≤ kind ∧ 255 < kind) ∨ (1 ≤ kind ∧ kind ≤ 255 ∧ n < 0)
set_option maxRecDepth 100000 in
set_option maxHeartbeats 1000000 in
theorem make_arg (kind n : Int) (A : Option Addr) (m c : Nat) (w : World) (h : kind < 1 ∨ 255 < kind ∨ n < 0) :
    Calls Try.prog 86 #[.int .i64 kind, .int .i64 n, .slice A m c] w fun e w' => e = .returned (.tuple #[aggB zerosL, .int .i64 2]) ∧ Below w.heap.size w w' := by
  have h' : KindOut kind n := by unfold KindOut; omega
  clear h
  have hz := (zero_of_info zero128).1
  have hi := (zero_of_info zero128).2
  have hl : (zerosL.map bv).length = 128 := by simp [zerosL_len]
  have h1 := mem_bv (l := zerosL)
  unfold aggB at *
  generalize zerosL.map bv = Z at *
  have Hl := Lib.hid hl
  have Hi := Lib.hid hi
  have H1 := Lib.hid h1
  clear hl hi h1
  rcases h' with h | ⟨h2, h⟩ | ⟨h2, h3, h⟩
  all_goals
    go_enter Try.func86, Try.ntmps86
    go_wp2_with (first
      | (refine wpList_load_arr rfl (x := .tmp 8) rfl rfl (t := 128) (cs := Z) (by (repeat' (first | (with_reducible assumption) | (with_reducible refine Blk.top _ (by first | rfl | omega | (simp; done) | (simp; omega)) rfl) | (with_reducible refine Blk.alloc ?_ _) | (with_reducible refine Blk.drew ?_) | (with_reducible refine Blk.drewN ?_ _) | (with_reducible refine Blk.far ?_ (by first | omega | (simp; done) | (simp; omega)) _)))) Try.underlying128 Hi.out Hl.out (xs := Z) (by rw [List.drop_zero, List.take_of_length_le (by rw [Hl.out]; omega)]) ?_)
      | (refine wpList_store_arr rfl (x := .tmp 6) (y := .tmp 21) rfl rfl rfl (t := 128) (cs := Z) (by (repeat' (first | (with_reducible assumption) | (with_reducible refine Blk.top _ (by first | rfl | omega | (simp; done) | (simp; omega)) rfl) | (with_reducible refine Blk.alloc ?_ _) | (with_reducible refine Blk.drew ?_) | (with_reducible refine Blk.drewN ?_ _) | (with_reducible refine Blk.far ?_ (by first | omega | (simp; done) | (simp; omega)) _)))) Hi.out Hl.out (by rw [Hl.out]; omega) H1.out ?_; intro w1 hb1 hg1 hs1))
    refine bodyPost_ret (v := .tuple #[.agg Z.toArray, .int .i64 2]) (results_arr_tmp Try.results86 _ rfl rfl (by rw [splice_all _ _ rfl] at hb1; exact hb1) Try.underlying128 Hi.out Hl.out) rfl ?_
    exact ⟨rfl, below_of_only (by (repeat' (first | (with_reducible exact Below.refl _ _) | (with_reducible assumption) | (with_reducible refine Below.drew ?_) | (with_reducible refine below_drewN ?_ _) | (with_reducible refine Below.alloc ?_ ?_ _) | (with_reducible refine Below.setCell ?_ ?_ _) | omega | (simp; done) | (simp; omega)))) hg1 (by first | omega | (simp; done) | (simp; omega)) (Nat.le_refl _)⟩

set_option maxRecDepth 100000 in
set_option maxHeartbeats 1000000 in
theorem make_limit (kind n : Int) (A : Option Addr) (m c : Nat) (w : World) (h1 : 1 ≤ kind) (h2 : kind ≤ 255) (h3 : 0 ≤ n) (h4 : 113 < m) (hm : m ≤ maxLen) :
    Calls Try.prog 86 #[.int .i64 kind, .int .i64 n, .slice A m c] w fun e w' => e = .returned (.tuple #[aggB zerosL, .int .i64 3]) ∧ Below w.heap.size w w' := by
  unfold maxLen at hm
  have hz := (zero_of_info zero128).1
  have hi := (zero_of_info zero128).2
  have hl : (zerosL.map bv).length = 128 := by simp [zerosL_len]
  have h1 := mem_bv (l := zerosL)
  unfold aggB at *
  generalize zerosL.map bv = Z at *
  have Hl := Lib.hid hl
  have Hi := Lib.hid hi
  have H1 := Lib.hid h1
  clear hl hi h1
  go_enter Try.func86, Try.ntmps86
  go_wp2_with (first
    | (refine wpList_load_arr rfl (x := .tmp 8) rfl rfl (t := 128) (cs := Z) (by (repeat' (first | (with_reducible assumption) | (with_reducible refine Blk.top _ (by first | rfl | omega | (simp; done) | (simp; omega)) rfl) | (with_reducible refine Blk.alloc ?_ _) | (with_reducible refine Blk.drew ?_) | (with_reducible refine Blk.drewN ?_ _) | (with_reducible refine Blk.far ?_ (by first | omega | (simp; done) | (simp; omega)) _)))) Try.underlying128 Hi.out Hl.out (xs := Z) (by rw [List.drop_zero, List.take_of_length_le (by rw [Hl.out]; omega)]) ?_)
    | (refine wpList_store_arr rfl (x := .tmp 6) (y := .tmp 26) rfl rfl rfl (t := 128) (cs := Z) (by (repeat' (first | (with_reducible assumption) | (with_reducible refine Blk.top _ (by first | rfl | omega | (simp; done) | (simp; omega)) rfl) | (with_reducible refine Blk.alloc ?_ _) | (with_reducible refine Blk.drew ?_) | (with_reducible refine Blk.drewN ?_ _) | (with_reducible refine Blk.far ?_ (by first | omega | (simp; done) | (simp; omega)) _)))) Hi.out Hl.out (by rw [Hl.out]; omega) H1.out ?_; intro w1 hb1 hg1 hs1))
  refine bodyPost_ret (v := .tuple #[.agg Z.toArray, .int .i64 3]) (results_arr_tmp Try.results86 _ rfl rfl (by rw [splice_all _ _ rfl] at hb1; exact hb1) Try.underlying128 Hi.out Hl.out) rfl ?_
  exact ⟨rfl, below_of_only (by (repeat' (first | (with_reducible exact Below.refl _ _) | (with_reducible assumption) | (with_reducible refine Below.drew ?_) | (with_reducible refine below_drewN ?_ _) | (with_reducible refine Below.alloc ?_ ?_ _) | (with_reducible refine Below.setCell ?_ ?_ _) | omega | (simp; done) | (simp; omega)))) hg1 (by first | omega | (simp; done) | (simp; omega)) (Nat.le_refl _)⟩
end Go.Proofs.Ytalmdccgpigppaa
