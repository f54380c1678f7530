/- A disk that is none does nothing. -/
import Derived.Test.YtalmdccgpigppaaDiskC
namespace Go.Proofs.Ytalmdccgpigppaa
open Go.RowKit
set_option linter.unusedVariables false
set_option linter.unusedSimpArgs false
section
variable {w : World} {d : Option Addr}
theorem nsize_any (h : NoDisk w d) : Calls Try.prog 79 #[.pointer d] w fun e w' => e = .returned (.int .i64 0) ∧ w = w' := by
  have his := is_no w d h
  clear h
  go_enter Try.func79, Try.ntmps79
  go_wp2_with (go_at_call 49; (with_reducible refine (his).mono ?_); rintro e w1 ⟨rfl, rfl⟩)
  go_ret
  exact ⟨rfl, rfl⟩
theorem nleft_any (h : NoDisk w d) : Calls Try.prog 134 #[.pointer d] w fun e w' => e = .returned (.int .i64 0) ∧ w = w' := by
  have his := is_no w d h
  clear h
  go_enter Try.func134, Try.ntmps134
  go_wp2_with (go_at_call 49; (with_reducible refine (his).mono ?_); rintro e w1 ⟨rfl, rfl⟩)
  go_ret
  exact ⟨rfl, rfl⟩
theorem ncut_any (h : NoDisk w d) (n : Int) : Calls Try.prog 12 #[.pointer d, .int .i64 n] w fun e w' => e = .returned (.tuple #[]) ∧ w = w' := by
  have his := is_no w d h
  clear h
  go_enter Try.func12, Try.ntmps12
  go_wp2_with (go_at_call 49; (with_reducible refine (his).mono ?_); rintro e w1 ⟨rfl, rfl⟩)
  go_end0
  exact ⟨rfl, rfl⟩
theorem ncrash_any (h : NoDisk w d) (A : Option Addr) (n c : Nat) : Calls Try.prog 14 #[.pointer d, .slice A n c] w fun e w' => e = .returned (.tuple #[]) ∧ w = w' := by
  have his := is_no w d h
  clear h
  go_enter Try.func14, Try.ntmps14
  go_wp2_with (go_at_call 49; (with_reducible refine (his).mono ?_); rintro e w1 ⟨rfl, rfl⟩)
  refine bodyPost_ret (v := .tuple #[]) (by simp [results, Try.results14, go_sem]) rfl ?_
  exact ⟨rfl, rfl⟩
theorem nmay_any (h : NoDisk w d) (n : Int) : Calls Try.prog 111 #[.pointer d, .int .i64 n] w fun e w' => e = .returned (.int .i64 1) ∧ w = w' := by
  have his := is_no w d h
  clear h
  go_enter Try.func111, Try.ntmps111
  go_wp2_with (go_at_call 49; (with_reducible refine (his).mono ?_); rintro e w1 ⟨rfl, rfl⟩)
  go_ret
  exact ⟨rfl, rfl⟩
theorem nflush_any (h : NoDisk w d) : Calls Try.prog 84 #[.pointer d] w fun e w' => e = .returned (.int .i64 1) ∧ w = w' := by
  have hm := nmay_any h 0
  clear h
  go_enter Try.func84, Try.ntmps84
  go_wp2_with (go_at_call 111; (with_reducible refine (hm).mono ?_); rintro e w1 ⟨rfl, rfl⟩)
  go_ret
  exact ⟨rfl, rfl⟩
theorem NoDisk.alloc (h : NoDisk w d) (o : Obj) : NoDisk (w.alloc o) d := by
  rcases h with rfl | ⟨g, rfl, h⟩
  · exact .inl rfl
  · exact .inr ⟨g, rfl, by rw [World.cell?_alloc_some _ _ _ (by rw [h]; rfl)]; exact h⟩
theorem nwrite_any (h : NoDisk w d) (n : Int) (b : List UInt8) : Calls Try.prog 110 #[.pointer d, .int .i64 n, aggB b] w fun e w' => e = .returned (.int .i64 1) ∧ Below w.heap.size w w' := by
  have hm := fun o => nmay_any (h.alloc o) n
  clear h
  unfold aggB
  generalize b.map bv = S at *
  go_enter Try.func110, Try.ntmps110
  go_wp2_with (go_at_call 111; (with_reducible refine (hm _).mono ?_); rintro e w1 ⟨rfl, rfl⟩)
  go_ret
  exact ⟨rfl, (by (repeat' (first | (with_reducible exact Below.refl _ _) | (with_reducible assumption) | (with_reducible refine Below.drew ?_) | (with_reducible refine below_drewN ?_ _) | (with_reducible refine Below.alloc ?_ ?_ _) | (with_reducible refine Below.setCell ?_ ?_ _) | omega | (simp; done) | (simp; omega))))⟩
set_option maxRecDepth 100000 in
set_option maxHeartbeats 1000000 in
theorem nread_any (h : NoDisk w d) (n : Int) : Calls Try.prog 107 #[.pointer d, .int .i64 n] w fun e w' => e = .returned (.tuple #[aggB zerosL, .int .i64 1]) ∧ Below w.heap.size w w' := by
  have hz := (zero_of_info zero128).1
  have Hi := Lib.hid (zero_of_info zero128).2
  have hlz : Hid ((zerosL.map bv).length = 128) := by show _ = _; simp [zerosL_len]
  have H1 := Lib.hid (mem_bv (l := zerosL))
  have hm := fun o => nmay_any (h.alloc o) n
  unfold aggB at *
  generalize zerosL.map bv = Z at *
  clear h
  go_enter Try.func107, Try.ntmps107
  go_wp2_with (first
    | (go_at_call 111; (with_reducible refine (hm _).mono ?_); rintro e w1 ⟨rfl, rfl⟩)
    | (refine wpList_store_arr rfl (x := .tmp 4) (y := .tmp 12) rfl rfl rfl (t := 128) (cs := Z) (xs := Z) (Blk.top _ rfl rfl) Hi.out hlz.out (by rw [hlz.out]; omega) H1.out ?_; intro w2 hb2 hg2 hs2; rw [splice_all _ _ rfl] at hb2)
    | fail "no arm")
  refine bodyPost_ret (v := .tuple #[.agg Z.toArray, .int .i64 1]) (results_arr_tmp Try.results107 _ rfl rfl hb2 Try.underlying128 Hi.out hlz.out) rfl ?_
  exact ⟨rfl, below_of_only ((Below.refl _ _).alloc (Nat.le_refl _) _) hg2 (by simp) (Nat.le_refl _)⟩
end
end Go.Proofs.Ytalmdccgpigppaa
