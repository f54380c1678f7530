/- Parts: KeepB. -/
import Derived.Test.YtalmdccgpigppaaPr47
import Derived.Test.YtalmdccgpigppaaPr09
import Derived.Test.YtalmdccgpigppaaPr02
namespace Go.Proofs.Ytalmdccgpigppaa
open Go.RowKit
set_option linter.unusedVariables false
set_option linter.unusedSimpArgs false
def lastKV (k : KpV) : SV := if k.has then k.last else noSnap
section
variable {w w' : World} {base g ga gb fl ml fr mr : Nat} {q : DiskP} {D : DiskV} {x : PA} {p : PV} {hash : Int} {k : KpV}
set_option maxRecDepth 100000 in
set_option maxHeartbeats 8000000 in
theorem klast_any (h : KeepAt w base g ga gb x p hash k) (h60 : k.last.cells.length ≤ 100) : Calls Try.prog 43 #[.pointer (some ⟨g, 0, none⟩)] w fun e w' =>
    ∃ A n c, e = .returned (.tuple #[.agg #[.int .i64 (lastKV k).tick, .int .i64 (lastKV k).hash, .slice A n c], .bool k.has]) ∧ Ow iv w' w.heap.size 3 A n c (lastKV k).cells ∧ Below w.heap.size w w' := by
  obtain ⟨gs, A, n, c, b1, b2, b3, b4, b5, b6, b7, b8⟩ := h
  obtain ⟨k7, k8, k9, k10⟩ := (show w.cell? ⟨g, 7, none⟩ = some (.int .i64 k.last.tick) ∧ w.cell? ⟨g, 8, none⟩ = some (.int .i64 k.last.hash) ∧ w.cell? ⟨g, 9, none⟩ = some (.slice A n c) ∧ w.cell? ⟨g, 10, none⟩ = some (.bool k.has) from ⟨b1.cell 7, b1.cell 8, b1.cell 9, b1.cell 10⟩)
  have hgl := b1.lt
  have HI := Lib.hid b5
  unfold lastKV
  obtain ⟨ks, ⟨kt, kh, kc⟩, khas⟩ := k
  simp only at k7 k8 k9 k10 HI ⊢
  have HB1 := Lib.hid b1
  clear b1 b4 b5 b8
  have hlen := HI.out.ri.1
  unfold maxLen at b7
  cases khas with
  | false =>
    go_enter Try.func43, Try.ntmps43
    go_wp2
    refine bodyPost_ret (v := .tuple #[.agg #[.int .i64 0, .int .i64 0, .slice none 0 0], .bool false]) (by simp [results, Try.results43, go_sem]) rfl ?_
    exact ⟨none, 0, 0, rfl, Ow.nil _ _ _ _, (by (repeat' (first | (with_reducible exact Below.refl _ _) | (with_reducible assumption) | (with_reducible refine Below.drew ?_) | (with_reducible refine below_drewN ?_ _) | (with_reducible refine Below.alloc ?_ ?_ _) | (with_reducible refine Below.setCell ?_ ?_ _) | omega | (simp; done) | (simp; omega))))⟩
  | true =>
    have hn60 : n ≤ 100 := by rw [← hlen]; exact h60
    have hmk : ∀ W : World, (Instr.makeSlice 54 (.int .i64 (n : Int)) (.int .i64 (n : Int))).run Try.prog W = .ok (.slice (some ⟨W.heap.size, 0, none⟩) n n) (W.alloc (.cells ((List.replicate n (0 : Int)).map iv).toArray 3)) := fun W => by
      have := run_make_one elemInt n (by omega) (by omega) W
      rw [show madeCells (Value.int .i64 0).cells n = ((List.replicate n (0 : Int)).map iv).toArray from by
        apply Array.ext'
        rw [show (Value.int .i64 0).cells = #[Value.int .i64 0] from rfl, toList_madeCells_one]
        simp [iv]] at this
      exact this
    have hsp : splice (List.replicate n (0 : Int)) 0 (kc.take n) = kc := by
      have h1 : kc.take n = kc := List.take_of_length_le (by omega)
      unfold splice
      rw [h1, List.take_zero, List.nil_append, List.drop_of_length_le (by rw [List.length_replicate]; omega), List.append_nil]
    have HSP := Lib.hid hsp
    have HZL := Lib.hid (show (List.replicate n (0 : Int)).length = n by simp)
    have HKL := Lib.hid hlen
    clear hsp h60 hlen
    generalize List.replicate n (0 : Int) = zs at *
    go_enter Try.func43, Try.ntmps43
    go_upto_region 5 with fail
    have b5 : Below w.heap.size w (((w.alloc (.cells #[.int .i64 0, .int .i64 0, .slice none 0 0] 98)).alloc (.cells #[.int .i64 kt, .int .i64 kh, .slice (some ⟨w.heap.size + 1 + 1, 0, none⟩) n n] 98)).alloc (.cells (zs.map iv).toArray 3)) := (by (repeat' (first | (with_reducible exact Below.refl _ _) | (with_reducible assumption) | (with_reducible refine Below.drew ?_) | (with_reducible refine below_drewN ?_ _) | (with_reducible refine Below.alloc ?_ ?_ _) | (with_reducible refine Below.setCell ?_ ?_ _) | omega | (simp; done) | (simp; omega))))
    have R5 := Lib.hid (show Blk (((w.alloc (.cells #[.int .i64 0, .int .i64 0, .slice none 0 0] 98)).alloc (.cells #[.int .i64 kt, .int .i64 kh, .slice (some ⟨w.heap.size + 1 + 1, 0, none⟩) n n] 98)).alloc (.cells (zs.map iv).toArray 3)) w.heap.size 98 [.int .i64 0, .int .i64 0, .slice none 0 0] from ((Blk.top _ rfl rfl).alloc _).alloc _)
    have X5 := Lib.hid (show Blk (((w.alloc (.cells #[.int .i64 0, .int .i64 0, .slice none 0 0] 98)).alloc (.cells #[.int .i64 kt, .int .i64 kh, .slice (some ⟨w.heap.size + 1 + 1, 0, none⟩) n n] 98)).alloc (.cells (zs.map iv).toArray 3)) (w.heap.size + 1) 98 [.int .i64 kt, .int .i64 kh, .slice (some ⟨w.heap.size + 1 + 1, 0, none⟩) n n] from (Blk.top _ (by simp) rfl).alloc _)
    have Z5 := Lib.hid (show Blk (((w.alloc (.cells #[.int .i64 0, .int .i64 0, .slice none 0 0] 98)).alloc (.cells #[.int .i64 kt, .int .i64 kh, .slice (some ⟨w.heap.size + 1 + 1, 0, none⟩) n n] 98)).alloc (.cells (zs.map iv).toArray 3)) (w.heap.size + 1 + 1) 3 (zs.map iv) from Blk.top _ (by simp) rfl)
    have I5 := Lib.hid (HI.out.below b5)
    have K5 := Lib.hid (HB1.out.below b5 hgl)
    have B5 := Lib.hid b5
    clear b5 k7 k8 k9 k10 HI HB1 hmk
    generalize (((w.alloc (.cells #[.int .i64 0, .int .i64 0, .slice none 0 0] 98)).alloc (.cells #[.int .i64 kt, .int .i64 kh, .slice (some ⟨w.heap.size + 1 + 1, 0, none⟩) n n] 98)).alloc (.cells (zs.map iv).toArray 3)) = w5 at *
    have k9 : w5.cell? ⟨g, 9, none⟩ = some (.slice A n c) := K5.out.cell 9
    have x2 : w5.cell? ⟨w.heap.size + 1, 2, none⟩ = some (.slice (some ⟨w.heap.size + 1 + 1, 0, none⟩) n n) := X5.out.cell 2
    have gl5 := K5.out.lt
    have xl5 := X5.out.lt
    go_region_held3 (fun w' => w'.cell? ⟨w.heap.size + 1, 2, none⟩ = some (.slice (some ⟨w.heap.size + 1 + 1, 0, none⟩) n n) ∧ w'.cell? ⟨g, 9, none⟩ = some (.slice A n c)) (first | go_keep | (refine ⟨?_, ?_⟩ <;> assumption)) (first
      | (refine step_copy_rd rfl (d := .tmp 28) (s := .tmp 33) rfl elemInt iv_one (g := w.heap.size + 1 + 1) (off := 0) (dLen := n) (dCap := n) (l := zs) (k := kc) (L := kc) rfl rfl (fun _ => rfl) Z5.out.drew I5.out.ri.rd (by rw [HZL.out]; omega) HSP.out ?_; intro w6 hb6 hg6 hs6; have X6 := Lib.hid (X5.out.drew.grown hg6 (by simp)); have K6 := Lib.hid (K5.out.drew.grown hg6 (by simp; omega)); have R6 := Lib.hid (R5.out.drew.grown hg6 (by simp; omega)); have y2 : w6.cell? ⟨w.heap.size + 1, 2, none⟩ = some (.slice (some ⟨w.heap.size + 1 + 1, 0, none⟩) n n) := X6.out.cell 2; have y9 : w6.cell? ⟨g, 9, none⟩ = some (.slice A n c) := K6.out.cell 9)
      | fail "no arm")
    obtain ⟨x60, x61, x62⟩ := blk3 X6.out
    obtain ⟨r60, r61, r62⟩ := blk3 R6.out
    have fr0 := R6.out.frozen 0
    have fr1 := R6.out.frozen 1
    have fr2 := R6.out.frozen 2
    have rl6 := R6.out.lt
    have xl6 := X6.out.lt
    have B6 := Lib.hid (below_of_only (Below.drew B5.out) hg6 B5.out.size (show w.heap.size ≤ w.heap.size + 1 + 1 by omega))
    go_wp2
    refine bodyPost_ret (v := .tuple #[.agg #[.int .i64 kt, .int .i64 kh, .slice (some ⟨w.heap.size + 1 + 1, 0, none⟩) n n], .bool true]) (by simp [results, Try.results43, go_sem, r60, r61, r62]) rfl ?_
    have hZ := ((Blk.far hb6 (p := ⟨w.heap.size, 0, none⟩) (by simp; omega) (.int .i64 kt)).far (p := ⟨w.heap.size, 1, none⟩) (by simp; omega) (.int .i64 kh)).far (p := ⟨w.heap.size, 2, none⟩) (by simp; omega) (.slice (some ⟨w.heap.size + 1 + 1, 0, none⟩) n n)
    exact ⟨_, n, n, rfl, ow_full hZ (by omega) HKL.out (by unfold maxLen; omega), ((B6.out.setCell (Nat.le_refl _) _).setCell (Nat.le_refl _) _).setCell (Nat.le_refl _) _⟩
end
end Go.Proofs.Ytalmdccgpigppaa
