/- Parts: VerifyE. -/
import Derived.Test.YtalmdccgpigppaaPr44
namespace Go.Proofs.Ytalmdccgpigppaa
open Go.RowKit
set_option linter.unusedVariables false
set_option linter.unusedSimpArgs false
section
variable {w w' : World} {base g : Nat} {x : PA} {p : PV} {s s' : LkV}
theorem past_at (h : LkAt w base g x p s) (z : Int) : LkPost w base g x p { s with past := z } none (.returned (.tuple #[])) (w.setCell ⟨g, 7, none⟩ (.int .i64 z)) := by
  obtain ⟨K, nk, ck, O, no, co, hb, hg, hk, ho⟩ := h
  exact ⟨rfl, ⟨K, nk, ck, O, no, co, hb.set_ 7 (.int .i64 z), hg, hk.setFar hb (by decide) 7 _, ho.setFar hb (by decide) 7 _⟩, (Below.refl _ _).setCell hg _, Stay.set hb (by decide) _ _⟩
theorem skipEq {s1 : LkV} {b b' : Bool} {z z' : Int} (hb : b = b') (hz : z = z') : ({ needV s1 b with past := z } : LkV) = { needV s1 b' with past := z' } := by subst hb hz; rfl
def skipOp (op : Int) : Prop := isSign op = false ∧ op ≠ 1 ∧ op ≠ 2 ∧ op ≠ 3 ∧ op ≠ 27 ∧ op ≠ 21 ∧ op ≠ 28 ∧ op ≠ 29 ∧ op ≠ 32
theorem instrV_skip {y : Ins} (h : skipOp y.op) (i : Nat) : instrV p s i y = { needV (takesV s y.a).1 (decide ((takesV s y.a).2 = 2) && (decide (0 ≤ y.k) && decide (y.k ≤ (p.code.length : Int) - 1 - (i : Int)))) with past := max s.past ((i : Int) + 1 + min y.k (p.code.length : Int)) } := by
  obtain ⟨h0, h1, h2, h3, h4, h5, h6, h7, h8⟩ := h
  unfold instrV
  rw [h0, if_neg (by simp), if_neg h1, if_neg h2, if_neg h3, if_neg h4, if_neg h5, if_neg h6, if_neg h7, if_neg h8]
  rw [takesV_eq]
  rfl
set_option maxRecDepth 100000 in
set_option maxHeartbeats 20000000 in
theorem lkinstr_skip (h : LkAt w base g x p s) (hs : base ≤ w.heap.size) (hp : Olds w base x p) (y : Ins) (i : Nat) (ho : skipOp y.op) (hi : i < p.code.length) (hcode : p.code.length ≤ 100000) (hk : -9223372036854775808 ≤ y.k ∧ y.k ≤ 9223372036854775807) :
    Calls Try.prog 126 #[.pointer (some ⟨g, 0, none⟩), .int .i64 (i : Nat), .agg #[.int .i64 y.op, .int .i64 y.a, .int .i64 y.b, .int .i64 y.c, .int .i64 y.k]] w (LkPost w base g x p (instrV p s i y) none) := by
  rw [instrV_skip ho]
  obtain ⟨op, ya, yb, yc, yk⟩ := y
  have S0 := Lib.hid (show LkS w base g x p ⟨op, ya, yb, yc, yk⟩ w.heap.size s (w.alloc (.cells #[.int .i64 op, .int .i64 ya, .int .i64 yb, .int .i64 yc, .int .i64 yk] 162)) from LkS.first h hs ⟨op, ya, yb, yc, yk⟩)
  simp only at ho hk ⊢
  obtain ⟨o0, o1, o2, o3, o27, o21, o28, o29, o32⟩ := ho
  have hsg := fun W => sign_any op W
  rw [show sgn3 op = (0, 0, false) from by unfold sgn3; rw [o0]; rfl] at hsg
  have b1 : (op == 1) = false := by rw [beq_eq_false_iff_ne]; exact o1
  have b2 : (op == 2) = false := by rw [beq_eq_false_iff_ne]; exact o2
  have b3 : (op == 3) = false := by rw [beq_eq_false_iff_ne]; exact o3
  have b27 : (op == 27) = false := by rw [beq_eq_false_iff_ne]; exact o27
  have b21 : (op == 21) = false := by rw [beq_eq_false_iff_ne]; exact o21
  have b28 : (op == 28) = false := by rw [beq_eq_false_iff_ne]; exact o28
  have b29 : (op == 29) = false := by rw [beq_eq_false_iff_ne]; exact o29
  have b32 : (op == 32) = false := by rw [beq_eq_false_iff_ne]; exact o32
  clear o0 o1 o2 o3 o27 o21 o28 o29 o32
  obtain ⟨z0, z1, z2, z3, z4, z5⟩ := S0.out.ib.cells
  obtain ⟨g0, g1, g3, g4, g7, g8, gf, gl⟩ := S0.out.lk.cells
  clear g0 g1 g3 g7 g8
  have hn4 : p.code.length = x.n4 := by obtain ⟨w0, hr, _⟩ := hp; exact hr.r4.1
  have hn4m : x.n4 ≤ maxLen := by obtain ⟨w0, hr, _⟩ := hp; have := hr.k4; omega
  rw [hn4] at hi hcode ⊢
  unfold maxLen at hn4m
  have HN4 := Lib.hid hn4
  clear hn4
  have hpast : ∀ b, (needV (takesV s ya).1 b).past = s.past := fun b => by rw [takesV_eq]; rfl
  have HPT := Lib.hid hpast
  clear hpast
  have htk := fun {W : World} (L : LkAt W base g x p s) => lktakes_any L ya
  generalize takesV s ya = T at *
  obtain ⟨s1, tv⟩ := T
  simp only at htk HPT ⊢
  generalize hM : max s.past ((i : Int) + 1 + min yk (x.n4 : Int)) = M
  generalize htb : (decide (tv = 2) && (decide (0 ≤ yk) && decide (yk ≤ (x.n4 : Int) - 1 - (i : Int)))) = tb
  have HM := Lib.hid hM
  clear hM
  have w1 : IntKind.i64.wrap ((x.n4 : Int) - 1) = (x.n4 : Int) - 1 := by rw [IntKind.wrap_i64]; omega
  have w2' : IntKind.i64.wrap ((x.n4 : Int) - 1 - (i : Int)) = (x.n4 : Int) - 1 - (i : Int) := by rw [IntKind.wrap_i64]; omega
  by_cases t2 : tv = 2
  · subst t2
    by_cases k0 : 0 ≤ yk
    · by_cases k1 : yk ≤ (x.n4 : Int) - 1 - (i : Int)
      · have hB := Lib.hid (show true = tb from by rw [← htb, decide_eq_true (rfl : (2 : Int) = 2), decide_eq_true k0, decide_eq_true k1]; rfl)
        clear htb
        go_enter Try.func126, Try.ntmps126
        go_upto_region 5 with (first
          | (go_at_call 137; (with_reducible refine (hsg _).mono ?_); rintro e w1 ⟨rfl, rfl⟩)
          | fail "no arm")
        go_region_held3 (fun w' => w'.cell? ⟨w.heap.size, 1, none⟩ = some (.int .i64 ya) ∧ w'.cell? ⟨w.heap.size, 4, none⟩ = some (.int .i64 yk) ∧ w'.cell? ⟨g, 4, none⟩ = some (.slice x.A4 x.n4 x.c4)) (first | go_keep | (refine ⟨?_, ?_, ?_⟩ <;> assumption)) (first
          | ((go_at_call 141; (with_reducible refine (htk S0.out.drew.lk).mono ?_); rintro e w1 hk1); have S1 := Lib.hid (S0.out.drew.next hk1); obtain ⟨rfl, _, _, _⟩ := hk1; obtain ⟨z1_0, z1_1, z1_2, z1_3, z1_4, z1_5⟩ := S1.out.ib.cells; obtain ⟨_, _, _, g1_4, _, _, _, gl1⟩ := S1.out.lk.cells)
          | ((go_at_call 140; (with_reducible refine (lkneed_any S1.out.lk _).mono ?_); rintro e w2 hk2); have S2 := Lib.hid (S1.out.next hk2); obtain ⟨rfl, _, _, _⟩ := hk2; obtain ⟨z2_0, z2_1, z2_2, z2_3, z2_4, z2_5⟩ := S2.out.ib.cells; obtain ⟨_, _, _, g2_4, g2_7, _, gf2, gl2⟩ := S2.out.lk.cells)
          | fail "no arm")
        rw [HPT.out] at g2_7
        have hmin : yk ≤ (x.n4 : Int) := by omega
        by_cases hmax : s.past ≤ (i : Int) + 1 + yk
        · skip
          go_upto_region 6 with fail
          go_region
          all_goals go_wp2
          all_goals
            go_end0
            refine ((S2.out.next (past_at S2.out.lk _)).drew.done).as (skipEq ?_ ?_)
            · first
                | exact hB.out
                | (rw [← hB.out, decide_eq_false_iff_not]; omega)
                | (exfalso; omega)
            · have := HM.out
              omega
        · skip
          go_upto_region 6 with fail
          go_region
          all_goals go_wp2
          all_goals
            go_end0
            refine ((S2.out.next (past_at S2.out.lk _)).drew.done).as (skipEq ?_ ?_)
            · first
                | exact hB.out
                | (rw [← hB.out, decide_eq_false_iff_not]; omega)
                | (exfalso; omega)
            · have := HM.out
              omega
      · have hB := Lib.hid (show false = tb from by rw [← htb, decide_eq_false k1, Bool.and_false, Bool.and_false])
        clear htb
        go_enter Try.func126, Try.ntmps126
        go_upto_region 5 with (first
          | (go_at_call 137; (with_reducible refine (hsg _).mono ?_); rintro e w1 ⟨rfl, rfl⟩)
          | fail "no arm")
        go_region_held3 (fun w' => w'.cell? ⟨w.heap.size, 1, none⟩ = some (.int .i64 ya) ∧ w'.cell? ⟨w.heap.size, 4, none⟩ = some (.int .i64 yk) ∧ w'.cell? ⟨g, 4, none⟩ = some (.slice x.A4 x.n4 x.c4)) (first | go_keep | (refine ⟨?_, ?_, ?_⟩ <;> assumption)) (first
          | ((go_at_call 141; (with_reducible refine (htk S0.out.drew.lk).mono ?_); rintro e w1 hk1); have S1 := Lib.hid (S0.out.drew.next hk1); obtain ⟨rfl, _, _, _⟩ := hk1; obtain ⟨z1_0, z1_1, z1_2, z1_3, z1_4, z1_5⟩ := S1.out.ib.cells; obtain ⟨_, _, _, g1_4, _, _, _, gl1⟩ := S1.out.lk.cells)
          | ((go_at_call 140; (with_reducible refine (lkneed_any S1.out.lk _).mono ?_); rintro e w2 hk2); have S2 := Lib.hid (S1.out.next hk2); obtain ⟨rfl, _, _, _⟩ := hk2; obtain ⟨z2_0, z2_1, z2_2, z2_3, z2_4, z2_5⟩ := S2.out.ib.cells; obtain ⟨_, _, _, g2_4, g2_7, _, gf2, gl2⟩ := S2.out.lk.cells)
          | fail "no arm")
        rw [HPT.out] at g2_7
        by_cases hmin : yk ≤ (x.n4 : Int)
        · by_cases hmax : s.past ≤ (i : Int) + 1 + yk
          · skip
            go_upto_region 6 with fail
            go_region
            all_goals go_wp2
            all_goals
              go_end0
              refine ((S2.out.next (past_at S2.out.lk _)).drew.done).as (skipEq ?_ ?_)
              · first
                  | exact hB.out
                  | (rw [← hB.out, decide_eq_false_iff_not]; omega)
                  | (exfalso; omega)
              · have := HM.out
                omega
          · skip
            go_upto_region 6 with fail
            go_region
            all_goals go_wp2
            all_goals
              go_end0
              refine ((S2.out.next (past_at S2.out.lk _)).drew.done).as (skipEq ?_ ?_)
              · first
                  | exact hB.out
                  | (rw [← hB.out, decide_eq_false_iff_not]; omega)
                  | (exfalso; omega)
              · have := HM.out
                omega
        · by_cases hmax : s.past ≤ (i : Int) + 1 + (x.n4 : Int)
          · skip
            go_upto_region 6 with fail
            go_region
            all_goals go_wp2
            all_goals
              go_end0
              refine ((S2.out.next (past_at S2.out.lk _)).drew.done).as (skipEq ?_ ?_)
              · first
                  | exact hB.out
                  | (rw [← hB.out, decide_eq_false_iff_not]; omega)
                  | (exfalso; omega)
              · have := HM.out
                omega
          · skip
            go_upto_region 6 with fail
            go_region
            all_goals go_wp2
            all_goals
              go_end0
              refine ((S2.out.next (past_at S2.out.lk _)).drew.done).as (skipEq ?_ ?_)
              · first
                  | exact hB.out
                  | (rw [← hB.out, decide_eq_false_iff_not]; omega)
                  | (exfalso; omega)
              · have := HM.out
                omega
    · have kd : decide (0 ≤ yk) = false := decide_eq_false k0
      have hB := Lib.hid (show false = tb from by rw [← htb, decide_eq_false k0, Bool.false_and, Bool.and_false])
      clear htb
      go_enter Try.func126, Try.ntmps126
      go_upto_region 5 with (first
        | (go_at_call 137; (with_reducible refine (hsg _).mono ?_); rintro e w1 ⟨rfl, rfl⟩)
        | fail "no arm")
      refine wp_region_held_drew (S := fun w' => w'.cell? ⟨w.heap.size, 1, none⟩ = some (.int .i64 ya) ∧ w'.cell? ⟨w.heap.size, 4, none⟩ = some (.int .i64 yk) ∧ w'.cell? ⟨g, 4, none⟩ = some (.slice x.A4 x.n4 x.c4)) (by kernel_rfl) ⟨z1, z4, g4⟩ (fun hHeld => ?_)
      refine wpAnyH_take (i := 0) (v := ?_) rfl (by decide +kernel) (by decide +kernel) (by decide +kernel) (fun _ _ _ h => h) (Or.inl ⟨by rfl, ?_⟩) (by assumption) ?_
      rotate_left 1
      · (intro w hSw; (try dsimp only at hSw); go_simp; try (with_reducible rfl))
      try simp only [List.getElem_toArray, List.getElem_cons_zero, List.getElem_cons_succ, Act.put, List.setIfInBounds_toArray, List.set_cons_zero, List.set_cons_succ]
      refine wpAnyH_take (i := 1) (v := ?_) rfl (by decide +kernel) (by decide +kernel) (by decide +kernel) (fun _ _ _ h => h) (Or.inl ⟨by rfl, ?_⟩) (by assumption) ?_
      rotate_left 1
      · (intro w hSw; (try dsimp only at hSw); go_simp; try (with_reducible rfl))
      try simp only [List.getElem_toArray, List.getElem_cons_zero, List.getElem_cons_succ, Act.put, List.setIfInBounds_toArray, List.set_cons_zero, List.set_cons_succ]
      refine wpAnyH_take (i := 2) (v := ?_) rfl (by decide +kernel) (by decide +kernel) (by decide +kernel) (fun _ _ _ h => h) (Or.inl ⟨by rfl, ?_⟩) (by assumption) ?_
      rotate_left 1
      · (intro w hSw; (try dsimp only at hSw); go_simp; try (with_reducible rfl))
      try simp only [List.getElem_toArray, List.getElem_cons_zero, List.getElem_cons_succ, Act.put, List.setIfInBounds_toArray, List.set_cons_zero, List.set_cons_succ]
      refine wpAnyH_take (i := 3) (v := ?_) rfl (by decide +kernel) (by decide +kernel) (by decide +kernel) (fun _ _ _ h => h) (Or.inl ⟨by rfl, ?_⟩) (by assumption) ?_
      rotate_left 1
      · (intro w hSw; (try dsimp only at hSw); obtain ⟨s1, s2, s3⟩ := hSw; go_simp; rfl)
      try simp only [List.getElem_toArray, List.getElem_cons_zero, List.getElem_cons_succ, Act.put, List.setIfInBounds_toArray, List.set_cons_zero, List.set_cons_succ]
      refine wpAnyH_ready (rs := [4]) (by decide +kernel) (by simp) ?_
      refine AllReadyH.cons rfl (fun K hK => ?_) AllReadyH.nil
      go_simp
      (go_at_call 141; (with_reducible refine (htk S0.out.drew.lk).mono ?_); rintro e w1 hk1)
      have S1 := Lib.hid (S0.out.drew.next hk1)
      obtain ⟨rfl, _, _, _⟩ := hk1
      obtain ⟨z1_0, z1_1, z1_2, z1_3, z1_4, z1_5⟩ := S1.out.ib.cells
      obtain ⟨_, _, _, g1_4, _, _, _, gl1⟩ := S1.out.lk.cells
      refine hK.out _ _ (⟨z1_1, z1_4, g1_4⟩) (fun hHeld => ?_)
      clear hK K
      try simp only [List.getElem_toArray, List.getElem_cons_zero, List.getElem_cons_succ, Act.put, List.setIfInBounds_toArray, List.set_cons_zero, List.set_cons_succ]
      refine wpAnyH_take (i := 5) (v := ?_) rfl (by decide +kernel) (by decide +kernel) (by decide +kernel) (fun _ _ _ h => h) (Or.inl ⟨by rfl, ?_⟩) (by assumption) ?_
      rotate_left 1
      · (intro w hSw; (try dsimp only at hSw); go_simp; try (with_reducible rfl))
      try simp only [List.getElem_toArray, List.getElem_cons_zero, List.getElem_cons_succ, Act.put, List.setIfInBounds_toArray, List.set_cons_zero, List.set_cons_succ]
      refine wpAnyH_take (i := 6) (v := ?_) rfl (by decide +kernel) (by decide +kernel) (by decide +kernel) (fun _ _ _ h => h) (Or.inl ⟨by rfl, ?_⟩) (by assumption) ?_
      rotate_left 1
      · (intro w hSw; (try dsimp only at hSw); go_simp; try (with_reducible rfl))
      try simp only [List.getElem_toArray, List.getElem_cons_zero, List.getElem_cons_succ, Act.put, List.setIfInBounds_toArray, List.set_cons_zero, List.set_cons_succ]
      refine wpAnyH_take (i := 7) (v := ?_) rfl (by decide +kernel) (by decide +kernel) (by decide +kernel) (fun _ _ _ h => h) (Or.inl ⟨by rfl, ?_⟩) (by assumption) ?_
      rotate_left 1
      · (intro w hSw; (try dsimp only at hSw); go_simp; try (with_reducible rfl))
      try simp only [List.getElem_toArray, List.getElem_cons_zero, List.getElem_cons_succ, Act.put, List.setIfInBounds_toArray, List.set_cons_zero, List.set_cons_succ]
      refine wpAnyH_take (i := 8) (v := ?_) rfl (by decide +kernel) (by decide +kernel) (by decide +kernel) (fun _ _ _ h => h) (Or.inl ⟨by rfl, ?_⟩) (by assumption) ?_
      rotate_left 1
      · (intro w hSw; (try dsimp only at hSw); obtain ⟨s1, s2, s3⟩ := hSw; go_simp; rfl)
      try simp only [List.getElem_toArray, List.getElem_cons_zero, List.getElem_cons_succ, Act.put, List.setIfInBounds_toArray, List.set_cons_zero, List.set_cons_succ]
      refine wpAnyH_take (i := 9) (v := ?_) rfl (by decide +kernel) (by decide +kernel) (by decide +kernel) (fun _ _ _ h => h) (Or.inl ⟨by rfl, ?_⟩) (by assumption) ?_
      rotate_left 1
      · (intro w hSw; (try dsimp only at hSw); go_simp; try (with_reducible rfl))
      try simp only [List.getElem_toArray, List.getElem_cons_zero, List.getElem_cons_succ, Act.put, List.setIfInBounds_toArray, List.set_cons_zero, List.set_cons_succ]
      refine wpAnyH_take (i := 10) (v := ?_) rfl (by decide +kernel) (by decide +kernel) (by decide +kernel) (fun _ _ _ h => h) (Or.inl ⟨by rfl, ?_⟩) (by assumption) ?_
      rotate_left 1
      · (intro w hSw; (try dsimp only at hSw); go_simp; try (with_reducible rfl))
      try simp only [List.getElem_toArray, List.getElem_cons_zero, List.getElem_cons_succ, Act.put, List.setIfInBounds_toArray, List.set_cons_zero, List.set_cons_succ]
      refine wpAnyH_take (i := 11) (v := ?_) rfl (by decide +kernel) (by decide +kernel) (by decide +kernel) (fun _ _ _ h => h) (Or.inl ⟨by rfl, ?_⟩) (by assumption) ?_
      rotate_left 1
      · (intro w hSw; (try dsimp only at hSw); go_simp; try (with_reducible rfl))
      try simp only [List.getElem_toArray, List.getElem_cons_zero, List.getElem_cons_succ, Act.put, List.setIfInBounds_toArray, List.set_cons_zero, List.set_cons_succ]
      refine wpAnyH_take (i := 12) (v := undef) rfl (by decide +kernel) (by decide +kernel) (by decide +kernel) (fun _ _ _ h => h) (Or.inr ⟨by rfl, rfl⟩) (by assumption) ?_
      try simp only [List.getElem_toArray, List.getElem_cons_zero, List.getElem_cons_succ, Act.put, List.setIfInBounds_toArray, List.set_cons_zero, List.set_cons_succ]
      refine wpAnyH_take (i := 13) (v := undef) rfl (by decide +kernel) (by decide +kernel) (by decide +kernel) (fun _ _ _ h => h) (Or.inr ⟨by rfl, rfl⟩) (by assumption) ?_
      try simp only [List.getElem_toArray, List.getElem_cons_zero, List.getElem_cons_succ, Act.put, List.setIfInBounds_toArray, List.set_cons_zero, List.set_cons_succ]
      refine wpAnyH_take (i := 14) (v := undef) rfl (by decide +kernel) (by decide +kernel) (by decide +kernel) (fun _ _ _ h => h) (Or.inr ⟨by rfl, rfl⟩) (by assumption) ?_
      try simp only [List.getElem_toArray, List.getElem_cons_zero, List.getElem_cons_succ, Act.put, List.setIfInBounds_toArray, List.set_cons_zero, List.set_cons_succ]
      refine wpAnyH_take (i := 15) (v := undef) rfl (by decide +kernel) (by decide +kernel) (by decide +kernel) (fun _ _ _ h => h) (Or.inr ⟨by rfl, rfl⟩) (by assumption) ?_
      try simp only [List.getElem_toArray, List.getElem_cons_zero, List.getElem_cons_succ, Act.put, List.setIfInBounds_toArray, List.set_cons_zero, List.set_cons_succ]
      refine wpAnyH_take (i := 16) (v := undef) rfl (by decide +kernel) (by decide +kernel) (by decide +kernel) (fun _ _ _ h => h) (Or.inr ⟨by rfl, rfl⟩) (by assumption) ?_
      try simp only [List.getElem_toArray, List.getElem_cons_zero, List.getElem_cons_succ, Act.put, List.setIfInBounds_toArray, List.set_cons_zero, List.set_cons_succ]
      refine wpAnyH_take (i := 17) (v := undef) rfl (by decide +kernel) (by decide +kernel) (by decide +kernel) (fun _ _ _ h => h) (Or.inr ⟨by rfl, rfl⟩) (by assumption) ?_
      try simp only [List.getElem_toArray, List.getElem_cons_zero, List.getElem_cons_succ, Act.put, List.setIfInBounds_toArray, List.set_cons_zero, List.set_cons_succ]
      refine wpAnyH_take (i := 18) (v := undef) rfl (by decide +kernel) (by decide +kernel) (by decide +kernel) (fun _ _ _ h => h) (Or.inr ⟨by rfl, rfl⟩) (by assumption) ?_
      try simp only [List.getElem_toArray, List.getElem_cons_zero, List.getElem_cons_succ, Act.put, List.setIfInBounds_toArray, List.set_cons_zero, List.set_cons_succ]
      refine wpAnyH_take (i := 19) (v := undef) rfl (by decide +kernel) (by decide +kernel) (by decide +kernel) (fun _ _ _ h => h) (Or.inr ⟨by rfl, rfl⟩) (by assumption) ?_
      try simp only [List.getElem_toArray, List.getElem_cons_zero, List.getElem_cons_succ, Act.put, List.setIfInBounds_toArray, List.set_cons_zero, List.set_cons_succ]
      refine wpAnyH_take (i := 20) (v := undef) rfl (by decide +kernel) (by decide +kernel) (by decide +kernel) (fun _ _ _ h => h) (Or.inr ⟨by rfl, rfl⟩) (by assumption) ?_
      try simp only [List.getElem_toArray, List.getElem_cons_zero, List.getElem_cons_succ, Act.put, List.setIfInBounds_toArray, List.set_cons_zero, List.set_cons_succ]
      refine wpAnyH_take (i := 21) (v := undef) rfl (by decide +kernel) (by decide +kernel) (by decide +kernel) (fun _ _ _ h => h) (Or.inr ⟨by rfl, rfl⟩) (by assumption) ?_
      try simp only [List.getElem_toArray, List.getElem_cons_zero, List.getElem_cons_succ, Act.put, List.setIfInBounds_toArray, List.set_cons_zero, List.set_cons_succ]
      refine wpAnyH_take (i := 22) (v := undef) rfl (by decide +kernel) (by decide +kernel) (by decide +kernel) (fun _ _ _ h => h) (Or.inr ⟨by rfl, rfl⟩) (by assumption) ?_
      try simp only [List.getElem_toArray, List.getElem_cons_zero, List.getElem_cons_succ, Act.put, List.setIfInBounds_toArray, List.set_cons_zero, List.set_cons_succ]
      refine wpAnyH_take (i := 23) (v := undef) rfl (by decide +kernel) (by decide +kernel) (by decide +kernel) (fun _ _ _ h => h) (Or.inr ⟨by rfl, rfl⟩) (by assumption) ?_
      try simp only [List.getElem_toArray, List.getElem_cons_zero, List.getElem_cons_succ, Act.put, List.setIfInBounds_toArray, List.set_cons_zero, List.set_cons_succ]
      refine wpAnyH_take (i := 24) (v := ?_) rfl (by decide +kernel) (by decide +kernel) (by decide +kernel) (fun _ _ _ h => h) (Or.inl ⟨by rfl, ?_⟩) (by assumption) ?_
      rotate_left 1
      · (intro w hSw; (try dsimp only at hSw); go_simp; try (with_reducible rfl))
      try simp only [List.getElem_toArray, List.getElem_cons_zero, List.getElem_cons_succ, Act.put, List.setIfInBounds_toArray, List.set_cons_zero, List.set_cons_succ]
      refine wpAnyH_ready (rs := [25]) (by decide +kernel) (by simp) ?_
      refine AllReadyH.cons rfl (fun K hK => ?_) AllReadyH.nil
      go_simp
      (go_at_call 140; (with_reducible refine (lkneed_any S1.out.lk _).mono ?_); rintro e w2 hk2)
      have S2 := Lib.hid (S1.out.next hk2)
      obtain ⟨rfl, _, _, _⟩ := hk2
      obtain ⟨z2_0, z2_1, z2_2, z2_3, z2_4, z2_5⟩ := S2.out.ib.cells
      obtain ⟨_, _, _, g2_4, g2_7, _, gf2, gl2⟩ := S2.out.lk.cells
      refine hK.out _ _ (⟨z2_1, z2_4, g2_4⟩) (fun hHeld => ?_)
      clear hK K
      try simp only [List.getElem_toArray, List.getElem_cons_zero, List.getElem_cons_succ, Act.put, List.setIfInBounds_toArray, List.set_cons_zero, List.set_cons_succ]
      refine wpAnyH_done (by decide +kernel) ?_ _
      rw [HPT.out] at g2_7
      have hmin : yk ≤ (x.n4 : Int) := by omega
      by_cases hmax : s.past ≤ (i : Int) + 1 + yk
      · skip
        go_upto_region 6 with fail
        go_region
        all_goals go_wp2
        all_goals
          go_end0
          refine ((S2.out.next (past_at S2.out.lk _)).drew.done).as (skipEq ?_ ?_)
          · first
              | exact hB.out
              | (rw [← hB.out, decide_eq_false_iff_not]; omega)
              | (exfalso; omega)
          · have := HM.out
            omega
      · skip
        go_upto_region 6 with fail
        go_region
        all_goals go_wp2
        all_goals
          go_end0
          refine ((S2.out.next (past_at S2.out.lk _)).drew.done).as (skipEq ?_ ?_)
          · first
              | exact hB.out
              | (rw [← hB.out, decide_eq_false_iff_not]; omega)
              | (exfalso; omega)
          · have := HM.out
            omega
  · have t2b : (tv == 2) = false := by rw [beq_eq_false_iff_ne]; exact t2
    have hB := Lib.hid (show false = tb from by rw [← htb, decide_eq_false t2, Bool.false_and])
    clear htb
    go_enter Try.func126, Try.ntmps126
    go_upto_region 5 with (first
      | (go_at_call 137; (with_reducible refine (hsg _).mono ?_); rintro e w1 ⟨rfl, rfl⟩)
      | fail "no arm")
    refine wp_region_held_drew (S := fun w' => w'.cell? ⟨w.heap.size, 1, none⟩ = some (.int .i64 ya) ∧ w'.cell? ⟨w.heap.size, 4, none⟩ = some (.int .i64 yk) ∧ w'.cell? ⟨g, 4, none⟩ = some (.slice x.A4 x.n4 x.c4)) (by kernel_rfl) ⟨z1, z4, g4⟩ (fun hHeld => ?_)
    refine wpAnyH_take (i := 0) (v := ?_) rfl (by decide +kernel) (by decide +kernel) (by decide +kernel) (fun _ _ _ h => h) (Or.inl ⟨by rfl, ?_⟩) (by assumption) ?_
    rotate_left 1
    · (intro w hSw; (try dsimp only at hSw); go_simp; try (with_reducible rfl))
    try simp only [List.getElem_toArray, List.getElem_cons_zero, List.getElem_cons_succ, Act.put, List.setIfInBounds_toArray, List.set_cons_zero, List.set_cons_succ]
    refine wpAnyH_take (i := 1) (v := ?_) rfl (by decide +kernel) (by decide +kernel) (by decide +kernel) (fun _ _ _ h => h) (Or.inl ⟨by rfl, ?_⟩) (by assumption) ?_
    rotate_left 1
    · (intro w hSw; (try dsimp only at hSw); go_simp; try (with_reducible rfl))
    try simp only [List.getElem_toArray, List.getElem_cons_zero, List.getElem_cons_succ, Act.put, List.setIfInBounds_toArray, List.set_cons_zero, List.set_cons_succ]
    refine wpAnyH_take (i := 2) (v := ?_) rfl (by decide +kernel) (by decide +kernel) (by decide +kernel) (fun _ _ _ h => h) (Or.inl ⟨by rfl, ?_⟩) (by assumption) ?_
    rotate_left 1
    · (intro w hSw; (try dsimp only at hSw); go_simp; try (with_reducible rfl))
    try simp only [List.getElem_toArray, List.getElem_cons_zero, List.getElem_cons_succ, Act.put, List.setIfInBounds_toArray, List.set_cons_zero, List.set_cons_succ]
    refine wpAnyH_take (i := 3) (v := ?_) rfl (by decide +kernel) (by decide +kernel) (by decide +kernel) (fun _ _ _ h => h) (Or.inl ⟨by rfl, ?_⟩) (by assumption) ?_
    rotate_left 1
    · (intro w hSw; (try dsimp only at hSw); obtain ⟨s1, s2, s3⟩ := hSw; go_simp; rfl)
    try simp only [List.getElem_toArray, List.getElem_cons_zero, List.getElem_cons_succ, Act.put, List.setIfInBounds_toArray, List.set_cons_zero, List.set_cons_succ]
    refine wpAnyH_ready (rs := [4]) (by decide +kernel) (by simp) ?_
    refine AllReadyH.cons rfl (fun K hK => ?_) AllReadyH.nil
    go_simp
    (go_at_call 141; (with_reducible refine (htk S0.out.drew.lk).mono ?_); rintro e w1 hk1)
    have S1 := Lib.hid (S0.out.drew.next hk1)
    obtain ⟨rfl, _, _, _⟩ := hk1
    obtain ⟨z1_0, z1_1, z1_2, z1_3, z1_4, z1_5⟩ := S1.out.ib.cells
    obtain ⟨_, _, _, g1_4, _, _, _, gl1⟩ := S1.out.lk.cells
    refine hK.out _ _ (⟨z1_1, z1_4, g1_4⟩) (fun hHeld => ?_)
    clear hK K
    try simp only [List.getElem_toArray, List.getElem_cons_zero, List.getElem_cons_succ, Act.put, List.setIfInBounds_toArray, List.set_cons_zero, List.set_cons_succ]
    refine wpAnyH_take (i := 5) (v := ?_) rfl (by decide +kernel) (by decide +kernel) (by decide +kernel) (fun _ _ _ h => h) (Or.inl ⟨by rfl, ?_⟩) (by assumption) ?_
    rotate_left 1
    · (intro w hSw; (try dsimp only at hSw); go_simp; try (with_reducible rfl))
    try simp only [List.getElem_toArray, List.getElem_cons_zero, List.getElem_cons_succ, Act.put, List.setIfInBounds_toArray, List.set_cons_zero, List.set_cons_succ]
    refine wpAnyH_take (i := 6) (v := ?_) rfl (by decide +kernel) (by decide +kernel) (by decide +kernel) (fun _ _ _ h => h) (Or.inl ⟨by rfl, ?_⟩) (by assumption) ?_
    rotate_left 1
    · (intro w hSw; (try dsimp only at hSw); go_simp; try (with_reducible rfl))
    try simp only [List.getElem_toArray, List.getElem_cons_zero, List.getElem_cons_succ, Act.put, List.setIfInBounds_toArray, List.set_cons_zero, List.set_cons_succ]
    refine wpAnyH_take (i := 7) (v := undef) rfl (by decide +kernel) (by decide +kernel) (by decide +kernel) (fun _ _ _ h => h) (Or.inr ⟨by rfl, rfl⟩) (by assumption) ?_
    try simp only [List.getElem_toArray, List.getElem_cons_zero, List.getElem_cons_succ, Act.put, List.setIfInBounds_toArray, List.set_cons_zero, List.set_cons_succ]
    refine wpAnyH_take (i := 8) (v := undef) rfl (by decide +kernel) (by decide +kernel) (by decide +kernel) (fun _ _ _ h => h) (Or.inr ⟨by rfl, rfl⟩) (by assumption) ?_
    try simp only [List.getElem_toArray, List.getElem_cons_zero, List.getElem_cons_succ, Act.put, List.setIfInBounds_toArray, List.set_cons_zero, List.set_cons_succ]
    refine wpAnyH_take (i := 9) (v := undef) rfl (by decide +kernel) (by decide +kernel) (by decide +kernel) (fun _ _ _ h => h) (Or.inr ⟨by rfl, rfl⟩) (by assumption) ?_
    try simp only [List.getElem_toArray, List.getElem_cons_zero, List.getElem_cons_succ, Act.put, List.setIfInBounds_toArray, List.set_cons_zero, List.set_cons_succ]
    refine wpAnyH_take (i := 10) (v := ?_) rfl (by decide +kernel) (by decide +kernel) (by decide +kernel) (fun _ _ _ h => h) (Or.inl ⟨by rfl, ?_⟩) (by assumption) ?_
    rotate_left 1
    · (intro w hSw; (try dsimp only at hSw); go_simp; try (with_reducible rfl))
    try simp only [List.getElem_toArray, List.getElem_cons_zero, List.getElem_cons_succ, Act.put, List.setIfInBounds_toArray, List.set_cons_zero, List.set_cons_succ]
    refine wpAnyH_take (i := 11) (v := ?_) rfl (by decide +kernel) (by decide +kernel) (by decide +kernel) (fun _ _ _ h => h) (Or.inl ⟨by rfl, ?_⟩) (by assumption) ?_
    rotate_left 1
    · (intro w hSw; (try dsimp only at hSw); go_simp; try (with_reducible rfl))
    try simp only [List.getElem_toArray, List.getElem_cons_zero, List.getElem_cons_succ, Act.put, List.setIfInBounds_toArray, List.set_cons_zero, List.set_cons_succ]
    refine wpAnyH_take (i := 12) (v := undef) rfl (by decide +kernel) (by decide +kernel) (by decide +kernel) (fun _ _ _ h => h) (Or.inr ⟨by rfl, rfl⟩) (by assumption) ?_
    try simp only [List.getElem_toArray, List.getElem_cons_zero, List.getElem_cons_succ, Act.put, List.setIfInBounds_toArray, List.set_cons_zero, List.set_cons_succ]
    refine wpAnyH_take (i := 13) (v := undef) rfl (by decide +kernel) (by decide +kernel) (by decide +kernel) (fun _ _ _ h => h) (Or.inr ⟨by rfl, rfl⟩) (by assumption) ?_
    try simp only [List.getElem_toArray, List.getElem_cons_zero, List.getElem_cons_succ, Act.put, List.setIfInBounds_toArray, List.set_cons_zero, List.set_cons_succ]
    refine wpAnyH_take (i := 14) (v := undef) rfl (by decide +kernel) (by decide +kernel) (by decide +kernel) (fun _ _ _ h => h) (Or.inr ⟨by rfl, rfl⟩) (by assumption) ?_
    try simp only [List.getElem_toArray, List.getElem_cons_zero, List.getElem_cons_succ, Act.put, List.setIfInBounds_toArray, List.set_cons_zero, List.set_cons_succ]
    refine wpAnyH_take (i := 15) (v := undef) rfl (by decide +kernel) (by decide +kernel) (by decide +kernel) (fun _ _ _ h => h) (Or.inr ⟨by rfl, rfl⟩) (by assumption) ?_
    try simp only [List.getElem_toArray, List.getElem_cons_zero, List.getElem_cons_succ, Act.put, List.setIfInBounds_toArray, List.set_cons_zero, List.set_cons_succ]
    refine wpAnyH_take (i := 16) (v := undef) rfl (by decide +kernel) (by decide +kernel) (by decide +kernel) (fun _ _ _ h => h) (Or.inr ⟨by rfl, rfl⟩) (by assumption) ?_
    try simp only [List.getElem_toArray, List.getElem_cons_zero, List.getElem_cons_succ, Act.put, List.setIfInBounds_toArray, List.set_cons_zero, List.set_cons_succ]
    refine wpAnyH_take (i := 17) (v := undef) rfl (by decide +kernel) (by decide +kernel) (by decide +kernel) (fun _ _ _ h => h) (Or.inr ⟨by rfl, rfl⟩) (by assumption) ?_
    try simp only [List.getElem_toArray, List.getElem_cons_zero, List.getElem_cons_succ, Act.put, List.setIfInBounds_toArray, List.set_cons_zero, List.set_cons_succ]
    refine wpAnyH_take (i := 18) (v := undef) rfl (by decide +kernel) (by decide +kernel) (by decide +kernel) (fun _ _ _ h => h) (Or.inr ⟨by rfl, rfl⟩) (by assumption) ?_
    try simp only [List.getElem_toArray, List.getElem_cons_zero, List.getElem_cons_succ, Act.put, List.setIfInBounds_toArray, List.set_cons_zero, List.set_cons_succ]
    refine wpAnyH_take (i := 19) (v := undef) rfl (by decide +kernel) (by decide +kernel) (by decide +kernel) (fun _ _ _ h => h) (Or.inr ⟨by rfl, rfl⟩) (by assumption) ?_
    try simp only [List.getElem_toArray, List.getElem_cons_zero, List.getElem_cons_succ, Act.put, List.setIfInBounds_toArray, List.set_cons_zero, List.set_cons_succ]
    refine wpAnyH_take (i := 20) (v := undef) rfl (by decide +kernel) (by decide +kernel) (by decide +kernel) (fun _ _ _ h => h) (Or.inr ⟨by rfl, rfl⟩) (by assumption) ?_
    try simp only [List.getElem_toArray, List.getElem_cons_zero, List.getElem_cons_succ, Act.put, List.setIfInBounds_toArray, List.set_cons_zero, List.set_cons_succ]
    refine wpAnyH_take (i := 21) (v := undef) rfl (by decide +kernel) (by decide +kernel) (by decide +kernel) (fun _ _ _ h => h) (Or.inr ⟨by rfl, rfl⟩) (by assumption) ?_
    try simp only [List.getElem_toArray, List.getElem_cons_zero, List.getElem_cons_succ, Act.put, List.setIfInBounds_toArray, List.set_cons_zero, List.set_cons_succ]
    refine wpAnyH_take (i := 22) (v := undef) rfl (by decide +kernel) (by decide +kernel) (by decide +kernel) (fun _ _ _ h => h) (Or.inr ⟨by rfl, rfl⟩) (by assumption) ?_
    try simp only [List.getElem_toArray, List.getElem_cons_zero, List.getElem_cons_succ, Act.put, List.setIfInBounds_toArray, List.set_cons_zero, List.set_cons_succ]
    refine wpAnyH_take (i := 23) (v := undef) rfl (by decide +kernel) (by decide +kernel) (by decide +kernel) (fun _ _ _ h => h) (Or.inr ⟨by rfl, rfl⟩) (by assumption) ?_
    try simp only [List.getElem_toArray, List.getElem_cons_zero, List.getElem_cons_succ, Act.put, List.setIfInBounds_toArray, List.set_cons_zero, List.set_cons_succ]
    refine wpAnyH_take (i := 24) (v := ?_) rfl (by decide +kernel) (by decide +kernel) (by decide +kernel) (fun _ _ _ h => h) (Or.inl ⟨by rfl, ?_⟩) (by assumption) ?_
    rotate_left 1
    · (intro w hSw; (try dsimp only at hSw); go_simp; try (with_reducible rfl))
    try simp only [List.getElem_toArray, List.getElem_cons_zero, List.getElem_cons_succ, Act.put, List.setIfInBounds_toArray, List.set_cons_zero, List.set_cons_succ]
    refine wpAnyH_ready (rs := [25]) (by decide +kernel) (by simp) ?_
    refine AllReadyH.cons rfl (fun K hK => ?_) AllReadyH.nil
    go_simp
    (go_at_call 140; (with_reducible refine (lkneed_any S1.out.lk _).mono ?_); rintro e w2 hk2)
    have S2 := Lib.hid (S1.out.next hk2)
    obtain ⟨rfl, _, _, _⟩ := hk2
    obtain ⟨z2_0, z2_1, z2_2, z2_3, z2_4, z2_5⟩ := S2.out.ib.cells
    obtain ⟨_, _, _, g2_4, g2_7, _, gf2, gl2⟩ := S2.out.lk.cells
    refine hK.out _ _ (⟨z2_1, z2_4, g2_4⟩) (fun hHeld => ?_)
    clear hK K
    try simp only [List.getElem_toArray, List.getElem_cons_zero, List.getElem_cons_succ, Act.put, List.setIfInBounds_toArray, List.set_cons_zero, List.set_cons_succ]
    refine wpAnyH_done (by decide +kernel) ?_ _
    rw [HPT.out] at g2_7
    by_cases hmin : yk ≤ (x.n4 : Int)
    · by_cases hmax : s.past ≤ (i : Int) + 1 + yk
      · skip
        go_upto_region 6 with fail
        go_region
        all_goals go_wp2
        all_goals
          go_end0
          refine ((S2.out.next (past_at S2.out.lk _)).drew.done).as (skipEq ?_ ?_)
          · first
              | exact hB.out
              | (rw [← hB.out, decide_eq_false_iff_not]; omega)
              | (exfalso; omega)
          · have := HM.out
            omega
      · skip
        go_upto_region 6 with fail
        go_region
        all_goals go_wp2
        all_goals
          go_end0
          refine ((S2.out.next (past_at S2.out.lk _)).drew.done).as (skipEq ?_ ?_)
          · first
              | exact hB.out
              | (rw [← hB.out, decide_eq_false_iff_not]; omega)
              | (exfalso; omega)
          · have := HM.out
            omega
    · by_cases hmax : s.past ≤ (i : Int) + 1 + (x.n4 : Int)
      · skip
        go_upto_region 6 with fail
        go_region
        all_goals go_wp2
        all_goals
          go_end0
          refine ((S2.out.next (past_at S2.out.lk _)).drew.done).as (skipEq ?_ ?_)
          · first
              | exact hB.out
              | (rw [← hB.out, decide_eq_false_iff_not]; omega)
              | (exfalso; omega)
          · have := HM.out
            omega
      · skip
        go_upto_region 6 with fail
        go_region
        all_goals go_wp2
        all_goals
          go_end0
          refine ((S2.out.next (past_at S2.out.lk _)).drew.done).as (skipEq ?_ ?_)
          · first
              | exact hB.out
              | (rw [← hB.out, decide_eq_false_iff_not]; omega)
              | (exfalso; omega)
          · have := HM.out
            omega
end
end Go.Proofs.Ytalmdccgpigppaa
