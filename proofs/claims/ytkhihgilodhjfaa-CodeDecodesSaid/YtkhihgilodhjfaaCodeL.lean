/- Contracts of package code: the reader's numbers, kinds, types, cells. -/
import Derived.Test.YtkhihgilodhjfaaCodeK
import Derived.Test.YtkhihgilodhjfaaCodeB
namespace Go.Proofs.Ytkhihgilodhjfaa
open Go.RowKit
set_option linter.unusedVariables false
set_option linter.unusedSimpArgs false

set_option maxRecDepth 100000 in
set_option maxHeartbeats 2000000 in
theorem rzig_any (w0 : World) (g : Nat) (s : RS) (w : World) (h : RdrAt w0 w g s) :
    Calls Try.prog 79 #[.pointer (some ⟨g, 0, none⟩)] w fun e w' => e = .returned (.int .i64 (rZig s).1) ∧ RdrAt w0 w' g (rZig s).2 ∧ Keep (· = g) w w' ∧ w'.heap.size = w.heap.size := by
  obtain ⟨bs, er⟩ := s
  have hH := Lib.hid h
  have hneed := fun s (ok : Bool) (z : Nat) (zi : Int) (hz : zi = (z : Int)) (w : World) (h : RdrAt w0 w g s) => need_any w0 g s ok z zi hz w h
  obtain ⟨hb, hg, A, n, c, hx, hr, h1, h2⟩ := h
  have c0 : w.cell? ⟨g, 0, none⟩ = some (.slice A n c) := hx.cell 0
  have hlen := hr.1
  have hzag := fun w h => zag_any A n c bs w h (by omega)
  have hrw := hr.below hb (Nat.le_refl _)
  have hle : zagS bs ≤ n := by rw [← hlen]; exact zagS_le bs
  unfold rZig
  simp only
  by_cases he : er = 0
  · subst he
    rw [if_neg (by simp)]
    by_cases hl : zagE bs = 0
    · rw [if_neg (by simp [hl])]
      have z1 : ((zagE bs : Nat) : Int) = 0 := by rw [hl]; rfl
      rw [z1] at hzag
      have hn1 := fun w h => hneed (bs, 0) true 0 0 rfl w h
      rw [needS_true] at hn1
      clear hneed hl z1
      generalize zagV bs = v at *
      generalize zagS bs = sz at *
      go_enter Try.func79, Try.ntmps79
      go_wp2_with (first
        | (go_at_call 89; (with_reducible refine (hzag _ hrw).mono ?_); rintro e w1 ⟨rfl, rfl⟩)
        | ((go_at_call 46; (with_reducible refine (hn1 _ hH.out).mono ?_); rintro e w3 ⟨rfl, hr3, k3, s3⟩); obtain ⟨b1, g1, A1, n1, c1, x1, r1, l1, m1⟩ := hr3; have hs1 : sz ≤ n1 := (by rw [← r1.1, hlen]; exact hle); have d0 : w3.cell? ⟨g, 0, none⟩ = some (.slice A1 n1 c1) := x1.cell 0; have d1 : w3.cell? ⟨g, 1, none⟩ = some (.int .i64 (0 : Int)) := x1.cell 1; have f1 := x1.frozen 0; have hcut := run_cut_from (P := Try.prog) elemU8 A1 n1 c1 sz hs1; have hfin := RdrAt.tail (k := sz) b1 g1 x1 rfl r1 l1 m1 hs1; have HF := Lib.hid hfin; have S3 := Lib.hid s3; generalize hAA : (if c1 = sz then A1 else A1.map (·.add (sz * 1))) = AA at *; clear hfin s3 x1 r1 hAA)
        | fail "no arm")
      go_ret
      exact ⟨rfl, HF.out, k3.set_ _ rfl, by simp [World.setCell, S3.out]⟩
    · rw [if_pos hl]
      have hn1 := fun w h => hneed (bs, 0) false (zagE bs) (zagE bs : Nat) rfl w h
      rw [needS_false] at hn1
      have hz0 : ((((zagE bs : Nat) : Int)) == 0) = false := by rw [beq_eq_false_iff_ne]; omega
      have hz1 : ((((zagE bs : Nat) : Int)) != 0) = true := by rw [bne_iff_ne]; omega
      clear hneed hle hl
      generalize zagV bs = v at *
      generalize zagS bs = sz at *
      generalize zagE bs = z at *
      go_enter Try.func79, Try.ntmps79
      go_wp2_with (first
        | (go_at_call 89; (with_reducible refine (hzag _ hrw).mono ?_); rintro e w1 ⟨rfl, rfl⟩)
        | ((go_at_call 46; (with_reducible refine (hn1 _ hH.out).mono ?_); rintro e w3 ⟨rfl, hr3, k3, s3⟩); obtain ⟨b1, g1, A1, n1, c1, x1, r1, l1, m1⟩ := id hr3; have d1 : w3.cell? ⟨g, 1, none⟩ = some (.int .i64 (z : Int)) := x1.cell 1; have H3 := Lib.hid hr3; have S3 := Lib.hid s3; clear hr3 s3 x1)
        | fail "no arm")
      go_ret
      exact ⟨rfl, H3.out, k3, S3.out⟩
  · rw [if_pos he]
    have hn' : ∀ (ok : Bool) (z : Nat) w, RdrAt w0 w g (bs, er) → Calls Try.prog 46 #[.pointer (some ⟨g, 0, none⟩), .bool ok, .int .i64 (z : Int)] w fun e w' => e = .returned (.tuple #[]) ∧ RdrAt w0 w' g (bs, er) ∧ Keep (· = g) w w' ∧ w'.heap.size = w.heap.size := fun ok z w h => by
      have := hneed (bs, er) ok z z rfl w h
      rwa [needS_bad bs he] at this
    have hz1 : (((er : Nat) : Int) != 0) = true := by rw [bne_iff_ne]; omega
    clear hneed hle
    generalize zagV bs = v at *
    generalize zagS bs = sz at *
    generalize zagE bs = z at *
    go_enter Try.func79, Try.ntmps79
    go_wp2_with (first
      | (go_at_call 89; (with_reducible refine (hzag _ hrw).mono ?_); rintro e w1 ⟨rfl, rfl⟩)
      | ((go_at_call 46; (with_reducible refine (hn' _ _ _ hH.out).mono ?_); rintro e w3 ⟨rfl, hr3, k3, s3⟩); obtain ⟨b1, g1, A1, n1, c1, x1, r1, l1, m1⟩ := id hr3; have d1 : w3.cell? ⟨g, 1, none⟩ = some (.int .i64 (er : Int)) := x1.cell 1; have H3 := Lib.hid hr3; have S3 := Lib.hid s3; clear hr3 s3 x1)
      | fail "no arm")
    all_goals
      go_ret
      exact ⟨rfl, H3.out, k3, S3.out⟩
end Go.Proofs.Ytkhihgilodhjfaa
