/- Contracts of package code: the reader. -/
import Derived.Test.YtkhihgilodhjfaaPlainRdr
import Derived.Test.YtkhihgilodhjfaaZag
import Derived.Test.YtkhihgilodhjfaaRowD
namespace Go.Proofs.Ytkhihgilodhjfaa
open Go.RowKit
set_option linter.unusedVariables false
set_option linter.unusedSimpArgs false

/-- A reader in memory: its bytes lie in what was there at w0. -/
def RdrAt (w0 w : World) (g : Nat) (s : RS) : Prop := Below w0.heap.size w0 w ∧ w0.heap.size ≤ g ∧ ∃ A n c, Blk w g 86 [.slice A n c, .int .i64 (s.2 : Int)] ∧ RB w0 A n s.1 ∧ n ≤ c ∧ c ≤ maxLen
theorem RdrAt.keep {F : Nat → Prop} {w0 w w' : World} {g : Nat} {s : RS} (h : RdrAt w0 w g s) (k : Keep F w w') (hF : ∀ x, F x → w0.heap.size ≤ x ∧ x ≠ g) : RdrAt w0 w' g s := by
  obtain ⟨hb, hg, A, n, c, hx, hr, h1, h2⟩ := h
  exact ⟨hb.trans (k.below (fun x e => (hF x e).1) hb.size), hg, A, n, c, hx.keep k (fun e => (hF g e).2 rfl), hr, h1, h2⟩

theorem need_any (w0 : World) (g : Nat) (s : RS) (ok : Bool) (z : Nat) (zi : Int) (hz : zi = (z : Int)) (w : World) (h : RdrAt w0 w g s) :
    Calls Try.prog 46 #[.pointer (some ⟨g, 0, none⟩), .bool ok, .int .i64 zi] w fun e w' => e = .returned (.tuple #[]) ∧ RdrAt w0 w' g (needS s ok z) ∧ Keep (· = g) w w' ∧ w'.heap.size = w.heap.size := by
  subst hz
  have h0 := h
  obtain ⟨hb, hg, A, n, c, hx, hr, h1, h2⟩ := h
  unfold needS
  cases ok with
  | true =>
    rw [if_neg (by simp)]
    go_enter Try.func46, Try.ntmps46
    go_wp2
    go_end0
    exact ⟨rfl, h0, Keep.refl _ _, rfl⟩
  | false =>
    have c1 : w.cell? ⟨g, 1, none⟩ = some (.int .i64 (s.2 : Int)) := hx.cell 1
    have f1 := hx.frozen 1
    by_cases h9 : s.2 = 0
    · rw [if_pos ⟨rfl, h9⟩]
      rw [h9] at c1
      have K : Keep (· = g) w (w.setCell ⟨g, 1, none⟩ (.int .i64 (z : Int))) := Keep.one (grown_setCell _)
      have hfin : RdrAt w0 (w.setCell ⟨g, 1, none⟩ (.int .i64 (z : Int))) g (s.1, z) := ⟨hb.trans (K.below (fun x e => by omega) hb.size), hg, A, n, c, hx.set_ 1 _, hr, h1, h2⟩
      have HK := Lib.hid K
      have HF := Lib.hid hfin
      clear hfin K h0 hx
      go_enter Try.func46, Try.ntmps46
      go_wp2
      go_end0
      exact ⟨rfl, HF.out, HK.out, by simp [World.setCell]⟩
    · rw [if_neg (fun h => h9 h.2)]
      have hne : (((s.2 : Nat) : Int) == 0) = false := by rw [beq_eq_false_iff_ne]; omega
      go_enter Try.func46, Try.ntmps46
      go_wp2
      go_end0
      exact ⟨rfl, h0, Keep.refl _ _, rfl⟩

/-- The head of bytes that are not none. -/
theorem RdrAt.tail {w0 w : World} {g : Nat} {A : Option Addr} {n c k : Nat} {bs : List UInt8} {z : Int} (hb : Below w0.heap.size w0 w) (hg : w0.heap.size ≤ g) (hx : Blk w g 86 [.slice A n c, .int .i64 z]) (hz : z = 0) (hr : RB w0 A n bs) (h1 : n ≤ c) (h2 : c ≤ maxLen) (hk : k ≤ n) :
    RdrAt w0 (w.setCell ⟨g, 0, none⟩ (.slice (if c = k then A else A.map (·.add (k * 1))) (n - k) (c - k))) g (bs.drop k, 0) :=
  ⟨hb.trans ((Keep.one (grown_setCell _)).below (F := (· = g)) (fun x e => by omega) hb.size), hg, _, n - k, c - k, by have := hx.set_ 0 (.slice (if c = k then A else A.map (·.add (k * 1))) (n - k) (c - k)); rw [hz] at this; exact this, cut_rb hr hk h1, by omega, by omega⟩
theorem rbyte_any (w0 : World) (g : Nat) (s : RS) (w : World) (h : RdrAt w0 w g s) :
    Calls Try.prog 77 #[.pointer (some ⟨g, 0, none⟩)] w fun e w' => e = .returned (.int .i64 ((rByte s).1 : Nat)) ∧ RdrAt w0 w' g (rByte s).2 ∧ Keep (· = g) w w' ∧ w'.heap.size = w.heap.size := by
  obtain ⟨bs, er⟩ := s
  have hneed := fun ok => need_any w0 g (bs, er) ok 10 10 rfl w h
  have hH := Lib.hid h
  obtain ⟨hb, hg, A, n, c, hx, hr, h1, h2⟩ := h
  have c0 : w.cell? ⟨g, 0, none⟩ = some (.slice A n c) := hx.cell 0
  have hlen := hr.1
  unfold rByte
  simp only
  by_cases he : er = 0
  · subst he
    rw [if_neg (by simp)]
    by_cases hnil : bs = []
    · rw [if_pos hnil]
      have hn0 : n = 0 := by rw [← hlen, hnil]; rfl
      subst hn0
      have hne : ∀ ok : Bool, ok = false → needS (bs, 0) ok 10 = (bs, 10) := fun ok h => by subst h; rfl
      have hneed' := hneed false
      rw [hne false rfl] at hneed'
      clear hneed
      go_enter Try.func77, Try.ntmps77
      go_wp2_with (first
        | ((go_at_call 46; (with_reducible refine (hneed').mono ?_); rintro e w1 ⟨rfl, hr1, k1, s1⟩); obtain ⟨b1, g1, A1, n1, c1, x1, r1, l1, m1⟩ := id hr1; have d1 : w1.cell? ⟨g, 1, none⟩ = some (.int .i64 (10 : Int)) := x1.cell 1; have H1 := Lib.hid hr1; have S1 := Lib.hid s1; clear hr1 s1 x1)
        | fail "no arm")
      go_ret
      exact ⟨rfl, H1.out, k1, S1.out⟩
    · rw [if_neg hnil]
      have hn0 : 0 < n := by
        rcases Nat.eq_zero_or_pos n with h | h
        · exact absurd (List.eq_nil_of_length_eq_zero (hlen.trans h)) hnil
        · exact h
      have hneed' := hneed true
      have e0 : needS (bs, 0) true 10 = (bs, 0) := rfl
      rw [e0] at hneed'
      clear hneed e0
      go_enter Try.func77, Try.ntmps77
      go_wp2_with (first
        | ((go_at_call 46; (with_reducible refine (hneed').mono ?_); rintro e w1 ⟨rfl, hr1, k1, s1⟩); obtain ⟨b1, g1, A1, n1, c1, x1, r1, l1, m1⟩ := hr1; have hn1 : 0 < n1 := (by rw [← r1.1, hlen]; exact hn0); obtain ⟨b, o, rfl, hbb, hcc⟩ := (r1.below b1 (Nat.le_refl _)).at_ hn1; have d0 : w1.cell? ⟨g, 0, none⟩ = some (.slice (some ⟨b, o, none⟩) n1 c1) := x1.cell 0; have d1 : w1.cell? ⟨g, 1, none⟩ = some (.int .i64 (0 : Int)) := x1.cell 1; have f1 := x1.frozen 0; have hcut : ∀ W : World, (Instr.slice 29 (.slice (some ⟨b, o, none⟩) n1 c1) (some (.int .i64 1)) none none).run Try.prog W = .ok (.slice (if c1 = 1 then (some ⟨b, o, none⟩ : Option Addr) else (some (⟨b, o, none⟩ : Addr)).map (·.add (1 * 1))) (n1 - 1) (c1 - 1)) W := run_cut_from (P := Try.prog) elemU8 (some ⟨b, o, none⟩) n1 c1 1 hn1; rw [Nat.add_zero] at hcc; have hfin := RdrAt.tail (k := 1) b1 g1 x1 rfl r1 l1 m1 hn1; have HF := Lib.hid hfin; have S1 := Lib.hid s1; have hby := byteAt_lt bs 0; have K1 := Lib.hid k1; generalize hAA : (if c1 = 1 then (some ⟨b, o, none⟩ : Option Addr) else (some (⟨b, o, none⟩ : Addr)).map (·.add (1 * 1))) = AA at *; clear hfin s1 k1 x1 r1 hAA)
        | fail "no arm")
      go_ret
      exact ⟨rfl, HF.out, K1.out.set_ _ rfl, by simp [World.setCell, S1.out]⟩
  · rw [if_pos he]
    have hne : ∀ ok : Bool, needS (bs, er) ok 10 = (bs, er) := fun ok => by unfold needS; rw [if_neg (fun h => he h.2)]
    have he' : (((er : Nat) : Int) != 0) = true := by rw [bne_iff_ne]; omega
    have hneed' := fun ok => hne ok ▸ hneed ok
    clear hneed hne
    go_enter Try.func77, Try.ntmps77
    go_wp2_with (first
      | ((go_at_call 46; (with_reducible refine (hneed' _).mono ?_); rintro e w1 ⟨rfl, hr1, k1, s1⟩); obtain ⟨b1, g1, A1, n1, c1, x1, r1, l1, m1⟩ := id hr1; have d1 : w1.cell? ⟨g, 1, none⟩ = some (.int .i64 (er : Int)) := x1.cell 1; have H1 := Lib.hid hr1; have S1 := Lib.hid s1; clear hr1 s1 x1)
      | fail "no arm")
    go_ret
    exact ⟨rfl, H1.out, k1, S1.out⟩

theorem needS_bad (bs : List UInt8) {er : Nat} (he : er ≠ 0) (ok : Bool) (z : Nat) : needS (bs, er) ok z = (bs, er) := by unfold needS; rw [if_neg (fun h => he h.2)]
theorem needS_true (s : RS) (z : Nat) : needS s true z = s := by unfold needS; rw [if_neg (by simp)]
theorem needS_false (bs : List UInt8) (z : Nat) : needS (bs, 0) false z = (bs, z) := rfl
set_option maxRecDepth 100000 in
set_option maxHeartbeats 2000000 in
theorem rshort_any (w0 : World) (g : Nat) (s : RS) (lo hi : Nat) (loi hii : Int) (hlo : loi = (lo : Int)) (hhi : hii = (hi : Int)) (w : World) (h : RdrAt w0 w g s) :
    Calls Try.prog 43 #[.pointer (some ⟨g, 0, none⟩), .int .i64 loi, .int .i64 hii] w fun e w' => e = .returned (.int .i64 ((rShort lo hi s).1 : Nat)) ∧ RdrAt w0 w' g (rShort lo hi s).2 ∧ Keep (· = g) w w' ∧ w'.heap.size = w.heap.size := by
  obtain ⟨bs, er⟩ := s
  have hH := Lib.hid h
  have hneed := fun s (ok : Bool) (z : Nat) (zi : Int) (hz : zi = (z : Int)) (w : World) (h : RdrAt w0 w g s) => need_any w0 g s ok z zi hz w h
  obtain ⟨hb, hg, A, n, c, hx, hr, h1, h2⟩ := h
  have c0 : w.cell? ⟨g, 0, none⟩ = some (.slice A n c) := hx.cell 0
  have hlen := hr.1
  have hlong := fun w h => long_any A n c bs w h (by omega)
  have hrw := hr.below hb (Nat.le_refl _)
  have hle : (endsL 9 0 bs).2 = 0 → (endsL 9 0 bs).1 ≤ n := fun h => by have := (endsL_le 9 bs 0 h).2.2; rw [hlen] at this; omega
  unfold rShort
  simp only
  by_cases he : er = 0
  · subst he
    rw [if_neg (by simp)]
    by_cases hl : (endsL 9 0 bs).2 = 0
    · rw [if_neg (by simp [hl])]
      have hsz := hle hl
      have z1 : (((endsL 9 0 bs).2 : Nat) : Int) = 0 := by rw [hl]; rfl
      rw [z1] at hlong
      clear hle hl z1
      by_cases hrange : longV bs < lo ∨ hi < longV bs
      · rw [if_pos hrange]
        have hcs : (((longV bs : Nat) : Int) < loi) ∨ (loi ≤ ((longV bs : Nat) : Int) ∧ hii < ((longV bs : Nat) : Int)) := by omega
        have hn1 := fun w h => hneed (bs, 0) true 0 0 rfl w h
        have hn2 := fun w h => hneed (bs, 0) false 3 3 rfl w h
        rw [needS_true] at hn1
        rw [needS_false] at hn2
        clear hneed hrange
        generalize longV bs = v at *
        generalize (endsL 9 0 bs).1 = sz at *
        have hn2d : ∀ (w : World), v ≤ hi ∨ RdrAt w0 w g (bs, 0) → ¬ v ≤ hi → Calls Try.prog 46 #[.pointer (some ⟨g, 0, none⟩), .bool (decide (v ≤ hi)), .int .i64 3] w fun e w' => e = .returned (.tuple #[]) ∧ RdrAt w0 w' g (bs, 3) ∧ Keep (· = g) w w' ∧ w'.heap.size = w.heap.size := fun w h h9 => by
          rw [decide_eq_false h9]
          exact hn2 w (h.resolve_left h9)
        rcases hcs with hc | ⟨hc, hc2⟩
        all_goals
          go_enter Try.func43, Try.ntmps43
          go_wp2_with (first
            | (go_at_call 78; (with_reducible refine (hlong _ hrw).mono ?_); rintro e w1 ⟨rfl, rfl⟩)
            | ((go_at_call 46; (with_reducible refine (hn1 _ hH.out).mono ?_); rintro e w2 ⟨rfl, hr2, k2, s2⟩); have H2 := Lib.hid hr2; have S2 := Lib.hid s2; clear hr2 s2)
            | ((go_at_call 46; (with_reducible refine (hn2 _ H2.out).mono ?_); rintro e w3 ⟨rfl, hr3, k3, s3⟩); obtain ⟨b1, g1, A1, n1, c1, x1, r1, l1, m1⟩ := id hr3; have d1 : w3.cell? ⟨g, 1, none⟩ = some (.int .i64 (3 : Int)) := x1.cell 1; have H3 := Lib.hid hr3; have S3 := Lib.hid s3; clear hr3 s3 x1)
            | ((go_at_call 46; (with_reducible refine (hn2d _ (.inr H2.out) (by omega)).mono ?_); rintro e w3 ⟨rfl, hr3, k3, s3⟩); obtain ⟨b1, g1, A1, n1, c1, x1, r1, l1, m1⟩ := id hr3; have d1 : w3.cell? ⟨g, 1, none⟩ = some (.int .i64 (3 : Int)) := x1.cell 1; have H3 := Lib.hid hr3; have S3 := Lib.hid s3; clear hr3 s3 x1)
            | fail "no arm")
          go_ret
          exact ⟨rfl, H3.out, k2.trans k3 (fun _ _ e => e), S3.out.trans S2.out⟩
      · rw [if_neg hrange]
        have hc1 : loi ≤ ((longV bs : Nat) : Int) := by omega
        have hc2 : ((longV bs : Nat) : Int) ≤ hii := by omega
        have hn1 := fun w h => hneed (bs, 0) true 0 0 rfl w h
        have hn2 := fun w h => hneed (bs, 0) true 3 3 rfl w h
        rw [needS_true] at hn1 hn2
        have hn2d : ∀ (w : World), RdrAt w0 w g (bs, 0) → Calls Try.prog 46 #[.pointer (some ⟨g, 0, none⟩), .bool (decide (longV bs ≤ hi)), .int .i64 3] w fun e w' => e = .returned (.tuple #[]) ∧ RdrAt w0 w' g (bs, 0) ∧ Keep (· = g) w w' ∧ w'.heap.size = w.heap.size := fun w h => by
          rw [decide_eq_true (show longV bs ≤ hi by omega)]
          exact hn2 w h
        clear hneed hrange
        generalize longV bs = v at *
        generalize (endsL 9 0 bs).1 = sz at *
        go_enter Try.func43, Try.ntmps43
        go_wp2_with (first
          | (go_at_call 78; (with_reducible refine (hlong _ hrw).mono ?_); rintro e w1 ⟨rfl, rfl⟩)
          | ((go_at_call 46; (with_reducible refine (hn1 _ hH.out).mono ?_); rintro e w2 ⟨rfl, hr2, k2, s2⟩); have H2 := Lib.hid hr2; have S2 := Lib.hid s2; clear hr2 s2)
          | ((go_at_call 46; (with_reducible refine (hn2 _ H2.out).mono ?_); rintro e w3 ⟨rfl, hr3, k3, s3⟩); obtain ⟨b1, g1, A1, n1, c1, x1, r1, l1, m1⟩ := hr3; have hs1 : sz ≤ n1 := (by rw [← r1.1, hlen]; exact hsz); have d0 : w3.cell? ⟨g, 0, none⟩ = some (.slice A1 n1 c1) := x1.cell 0; have d1 : w3.cell? ⟨g, 1, none⟩ = some (.int .i64 (0 : Int)) := x1.cell 1; have f1 := x1.frozen 0; have hcut := run_cut_from (P := Try.prog) elemU8 A1 n1 c1 sz hs1; have hfin := RdrAt.tail (k := sz) b1 g1 x1 rfl r1 l1 m1 hs1; have HF := Lib.hid hfin; have S3 := Lib.hid s3; generalize hAA : (if c1 = sz then A1 else A1.map (·.add (sz * 1))) = AA at *; clear hfin s3 x1 r1 hAA)
          | ((go_at_call 46; (with_reducible refine (hn2d _ H2.out).mono ?_); rintro e w3 ⟨rfl, hr3, k3, s3⟩); obtain ⟨b1, g1, A1, n1, c1, x1, r1, l1, m1⟩ := hr3; have hs1 : sz ≤ n1 := (by rw [← r1.1, hlen]; exact hsz); have d0 : w3.cell? ⟨g, 0, none⟩ = some (.slice A1 n1 c1) := x1.cell 0; have d1 : w3.cell? ⟨g, 1, none⟩ = some (.int .i64 (0 : Int)) := x1.cell 1; have f1 := x1.frozen 0; have hcut := run_cut_from (P := Try.prog) elemU8 A1 n1 c1 sz hs1; have hfin := RdrAt.tail (k := sz) b1 g1 x1 rfl r1 l1 m1 hs1; have HF := Lib.hid hfin; have S3 := Lib.hid s3; generalize hAA : (if c1 = sz then A1 else A1.map (·.add (sz * 1))) = AA at *; clear hfin s3 x1 r1 hAA)
          | fail "no arm")
        go_ret
        exact ⟨rfl, HF.out, (k2.trans k3 (fun _ _ e => e)).set_ _ rfl, by simp [World.setCell, S3.out, S2.out]⟩
    · rw [if_pos hl]
      have hn1 := fun w h => hneed (bs, 0) false (endsL 9 0 bs).2 ((endsL 9 0 bs).2 : Nat) rfl w h
      have hn2 := fun ok w h => hneed (bs, (endsL 9 0 bs).2) ok 3 3 rfl w h
      rw [needS_false] at hn1
      have hn2' : ∀ (ok : Bool) w, RdrAt w0 w g (bs, (endsL 9 0 bs).2) → Calls Try.prog 46 #[.pointer (some ⟨g, 0, none⟩), .bool ok, .int .i64 3] w fun e w' => e = .returned (.tuple #[]) ∧ RdrAt w0 w' g (bs, (endsL 9 0 bs).2) ∧ Keep (· = g) w w' ∧ w'.heap.size = w.heap.size := fun ok w h => by
        have := hn2 ok w h
        rwa [needS_bad bs hl] at this
      have hz0 : (((((endsL 9 0 bs).2 : Nat) : Int)) == 0) = false := by rw [beq_eq_false_iff_ne]; omega
      have hz1 : (((((endsL 9 0 bs).2 : Nat) : Int)) != 0) = true := by rw [bne_iff_ne]; omega
      clear hneed hn2 hle hl
      generalize longV bs = v at *
      generalize (endsL 9 0 bs).1 = sz at *
      generalize (endsL 9 0 bs).2 = z at *
      go_enter Try.func43, Try.ntmps43
      go_wp2_with (first
        | (go_at_call 78; (with_reducible refine (hlong _ hrw).mono ?_); rintro e w1 ⟨rfl, rfl⟩)
        | ((go_at_call 46; (with_reducible refine (hn1 _ hH.out).mono ?_); rintro e w2 ⟨rfl, hr2, k2, s2⟩); have H2 := Lib.hid hr2; have S2 := Lib.hid s2; clear hr2 s2)
        | ((go_at_call 46; (with_reducible refine (hn2' _ _ H2.out).mono ?_); rintro e w3 ⟨rfl, hr3, k3, s3⟩); obtain ⟨b1, g1, A1, n1, c1, x1, r1, l1, m1⟩ := id hr3; have d1 : w3.cell? ⟨g, 1, none⟩ = some (.int .i64 (z : Int)) := x1.cell 1; have H3 := Lib.hid hr3; have S3 := Lib.hid s3; clear hr3 s3 x1)
        | fail "no arm")
      all_goals
        go_ret
        exact ⟨rfl, H3.out, k2.trans k3 (fun _ _ e => e), S3.out.trans S2.out⟩
  · rw [if_pos he]
    have hn' : ∀ (ok : Bool) (z : Nat) w, RdrAt w0 w g (bs, er) → Calls Try.prog 46 #[.pointer (some ⟨g, 0, none⟩), .bool ok, .int .i64 (z : Int)] w fun e w' => e = .returned (.tuple #[]) ∧ RdrAt w0 w' g (bs, er) ∧ Keep (· = g) w w' ∧ w'.heap.size = w.heap.size := fun ok z w h => by
      have := hneed (bs, er) ok z z rfl w h
      rwa [needS_bad bs he] at this
    have hn3 : ∀ (ok : Bool) w, RdrAt w0 w g (bs, er) → Calls Try.prog 46 #[.pointer (some ⟨g, 0, none⟩), .bool ok, .int .i64 3] w fun e w' => e = .returned (.tuple #[]) ∧ RdrAt w0 w' g (bs, er) ∧ Keep (· = g) w w' ∧ w'.heap.size = w.heap.size := fun ok w h => hn' ok 3 w h
    have hz1 : (((er : Nat) : Int) != 0) = true := by rw [bne_iff_ne]; omega
    clear hneed hle
    generalize longV bs = v at *
    generalize (endsL 9 0 bs).1 = sz at *
    generalize (endsL 9 0 bs).2 = z at *
    go_enter Try.func43, Try.ntmps43
    go_wp2_with (first
      | (go_at_call 78; (with_reducible refine (hlong _ hrw).mono ?_); rintro e w1 ⟨rfl, rfl⟩)
      | ((go_at_call 46; (with_reducible refine (hn' _ _ _ hH.out).mono ?_); rintro e w2 ⟨rfl, hr2, k2, s2⟩); have H2 := Lib.hid hr2; have S2 := Lib.hid s2; clear hr2 s2)
      | ((go_at_call 46; (with_reducible refine (hn3 _ _ H2.out).mono ?_); rintro e w3 ⟨rfl, hr3, k3, s3⟩); obtain ⟨b1, g1, A1, n1, c1, x1, r1, l1, m1⟩ := id hr3; have d1 : w3.cell? ⟨g, 1, none⟩ = some (.int .i64 (er : Int)) := x1.cell 1; have H3 := Lib.hid hr3; have S3 := Lib.hid s3; clear hr3 s3 x1)
      | fail "no arm")
    all_goals
      go_ret
      exact ⟨rfl, H3.out, k2.trans k3 (fun _ _ e => e), S3.out.trans S2.out⟩
end Go.Proofs.Ytkhihgilodhjfaa
