/- Parts: VerifyE. -/
import Derived.Test.YtpmkpckldnnigaaGreatPr02
import Derived.Test.YtpmkpckldnnigaaGreatPr39
set_option linter.unusedVariables false
set_option linter.unusedSimpArgs false
set_option maxRecDepth 100000
set_option maxHeartbeats 40000000
namespace Go.Proofs.YtpmkpckldnnigaaGreat
open Go.RowKit
section
variable {w w' : World} {base g : Nat} {x : PA} {p : PV} {s s' : LkV}
theorem qp8 (h : LkAt w base g x p s) (z : Int) : qh9 w base g x p { s with past := z } none (.returned (.tuple #[])) (w.setCell ⟨g, 7, none⟩ (.int .i64 z)) := by
  obtain ⟨K, nk, ck, O, no, co, hb, hg, hk, ho⟩ := h; exact ⟨rfl, ⟨K, nk, ck, O, no, co, hb.set_ 7 (.int .i64 z), hg, hk.setFar hb dcd 7 _, ho.setFar hb dcd 7 _⟩, (Below.refl _ _).setCell hg _, Stay.set hb dcd _ _⟩
theorem qs8 {s1 : LkV} {b b' : Bool} {z z' : Int} (hb : b = b') (hz : z = z') : ({ qg2 s1 b with past := z } : LkV) = { qg2 s1 b' with past := z' } := by subst hb hz; rfl
def skipOp (op : Int) : Prop := qo3 op = false ∧ op ≠ 1 ∧ op ≠ 2 ∧ op ≠ 3 ∧ op ≠ 27 ∧ op ≠ 21 ∧ op ≠ 28 ∧ op ≠ 29 ∧ op ≠ 32
theorem instrV_skip {y : Ins} (h : skipOp y.op) (i : Nat) : qc5 p s i y = { qg2 (qe4 s y.a).1 (decide ((qe4 s y.a).2 = 2) && (decide (0 ≤ y.k) && decide (y.k ≤ (p.code.length : Int) - 1 - (i : Int)))) with past := max s.past ((i : Int) + 1 + min y.k (p.code.length : Int)) } := by
  obtain ⟨h0, h1, h2, h3, h4, h5, h6, h7, h8⟩ := h; unfold qc5; rw [h0, if_neg smp, if_neg h1, if_neg h2, if_neg h3, if_neg h4, if_neg h5, if_neg h6, if_neg h7, if_neg h8]; rw [qk3]
  rfl
theorem lkinstr_skip (h : LkAt w base g x p s) (hs : base ≤ w.heap.size) (hp : Olds w base x p) (y : Ins) (i : Nat) (ho : skipOp y.op) (hi : i < p.code.length) (hcode : p.code.length ≤ 100000) (hk : -9223372036854775808 ≤ y.k ∧ y.k ≤ 9223372036854775807) :
    Calls Tryz.prog 203 #[.pointer (some ⟨g, 0, none⟩), .int .i64 (i : Nat), .agg #[.int .i64 y.op, .int .i64 y.a, .int .i64 y.b, .int .i64 y.c, .int .i64 y.k]] w (qh9 w base g x p (qc5 p s i y) none) := by
  rw [instrV_skip ho]; obtain ⟨op, ya, yb, yc, yk⟩ := y; have S0 := hdd (show LkS w base g x p ⟨op, ya, yb, yc, yk⟩ w.heap.size s (w.alloc (.cells #[.int .i64 op, .int .i64 ya, .int .i64 yb, .int .i64 yc, .int .i64 yk] 133)) from LkS.first h hs ⟨op, ya, yb, yc, yk⟩); simp only at ho hk ⊢; obtain ⟨o0, o1, o2, o3, o27, o21, o28, o29, o32⟩ := ho; have hsg := fun W => qp2 op W
  rw [show sgn3 op = (0, 0, false) from by unfold sgn3; rw [o0]; rfl] at hsg; have b1 : (op == 1) = false := by rw [beq_eq_false_iff_ne]; exact o1
  have b2 : (op == 2) = false := by rw [beq_eq_false_iff_ne]; exact o2
  have b3 : (op == 3) = false := by rw [beq_eq_false_iff_ne]; exact o3
  have b27 : (op == 27) = false := by rw [beq_eq_false_iff_ne]; exact o27
  have b21 : (op == 21) = false := by rw [beq_eq_false_iff_ne]; exact o21
  have b28 : (op == 28) = false := by rw [beq_eq_false_iff_ne]; exact o28
  have b29 : (op == 29) = false := by rw [beq_eq_false_iff_ne]; exact o29
  have b32 : (op == 32) = false := by rw [beq_eq_false_iff_ne]; exact o32
  clear o0 o1 o2 o3 o27 o21 o28 o29 o32; obtain ⟨z0, z1, z2, z3, z4, z5⟩ := S0.out.ib.cells; obtain ⟨g0, g1, g3, g4, g7, g8, gf, gl⟩ := S0.out.lk.cells; clear g0 g1 g3 g7 g8; have hn4 : p.code.length = x.n4 := by obtain ⟨w0, hr, _⟩ := hp; exact hr.r4.1
  have hn4m : x.n4 ≤ maxLen := by obtain ⟨w0, hr, _⟩ := hp; have := hr.k4; omega
  rw [hn4] at hi hcode ⊢; unfold maxLen at hn4m; have HN4 := hdd hn4; clear hn4; have hpast : ∀ b, (qg2 (qe4 s ya).1 b).past = s.past := fun b => by rw [qk3]; rfl
  have HPT := hdd hpast; clear hpast; have htk := fun {W : World} (L : LkAt W base g x p s) => qd9 L ya
  generalize qe4 s ya = T at *; obtain ⟨s1, tv⟩ := T; simp only at htk HPT ⊢; generalize hM : max s.past ((i : Int) + 1 + min yk (x.n4 : Int)) = M; generalize htb : (decide (tv = 2) && (decide (0 ≤ yk) && decide (yk ≤ (x.n4 : Int) - 1 - (i : Int)))) = tb; have HM := hdd hM; clear hM; have w1 : IntKind.i64.wrap ((x.n4 : Int) - 1) = (x.n4 : Int) - 1 := by rw [IntKind.wrap_i64]; omega
  have w2' : IntKind.i64.wrap ((x.n4 : Int) - 1 - (i : Int)) = (x.n4 : Int) - 1 - (i : Int) := by rw [IntKind.wrap_i64]; omega
  by_cases t2 : tv = 2
  · subst t2
    by_cases k0 : 0 ≤ yk
    · by_cases k1 : yk ≤ (x.n4 : Int) - 1 - (i : Int)
      · have hB := hdd (show true = tb from by rw [← htb, decide_eq_true (rfl : (2 : Int) = 2), decide_eq_true k0, decide_eq_true k1]; rfl); clear htb; go_enter Tryz.func203, Tryz.ntmps203; go_upto_region 5 with (first | (go_at_call 245; (with_reducible refine (hsg _).mono ?_); rintro e w1 ⟨rfl, rfl⟩) | fail "no arm"); go_region_held3 (fun w' => w'.cell? ⟨w.heap.size, 1, none⟩ = some (.int .i64 ya) ∧ w'.cell? ⟨w.heap.size, 4, none⟩ = some (.int .i64 yk) ∧ w'.cell? ⟨g, 4, none⟩ = some (.slice x.A4 x.n4 x.c4)) (first | go_keep | (refine ⟨?_, ?_, ?_⟩ <;> assumption)) (first | ((go_at_call 249; (with_reducible refine (htk S0.out.drew.lk).mono ?_); rintro e w1 hk1); have S1 := hdd (S0.out.drew.next hk1); obtain ⟨rfl, _, _, _⟩ := hk1; obtain ⟨z1_0, z1_1, z1_2, z1_3, z1_4, z1_5⟩ := S1.out.ib.cells; obtain ⟨_, _, _, g1_4, _, _, _, gl1⟩ := S1.out.lk.cells) | ((go_at_call 248; (with_reducible refine (qd8 S1.out.lk _).mono ?_); rintro e w2 hk2); have S2 := hdd (S1.out.next hk2); obtain ⟨rfl, _, _, _⟩ := hk2; obtain ⟨z2_0, z2_1, z2_2, z2_3, z2_4, z2_5⟩ := S2.out.ib.cells; obtain ⟨_, _, _, g2_4, g2_7, _, gf2, gl2⟩ := S2.out.lk.cells) | fail "no arm"); rw [HPT.out] at g2_7; have hmin : yk ≤ (x.n4 : Int) := omg
        by_cases hmax : s.past ≤ (i : Int) + 1 + yk
        · skip
          go_upto_region 6 with fail; go_region
          all_goals go_wp2
          all_goals
            go_end0; refine ((S2.out.next (qp8 S2.out.lk _)).drew.done).as (qs8 ?_ ?_)
            · first
                | exact hB.out
                | (rw [← hB.out, decide_eq_false_iff_not]; omega)
                | (exfalso; omega)
            · have := HM.out; omega
        · skip
          go_upto_region 6 with fail; go_region
          all_goals go_wp2
          all_goals
            go_end0; refine ((S2.out.next (qp8 S2.out.lk _)).drew.done).as (qs8 ?_ ?_)
            · first
                | exact hB.out
                | (rw [← hB.out, decide_eq_false_iff_not]; omega)
                | (exfalso; omega)
            · have := HM.out; omega
      · have hB := hdd (show false = tb from by rw [← htb, decide_eq_false k1, Bool.and_false, Bool.and_false]); clear htb; go_enter Tryz.func203, Tryz.ntmps203; go_upto_region 5 with (first | (go_at_call 245; (with_reducible refine (hsg _).mono ?_); rintro e w1 ⟨rfl, rfl⟩) | fail "no arm"); go_region_held3 (fun w' => w'.cell? ⟨w.heap.size, 1, none⟩ = some (.int .i64 ya) ∧ w'.cell? ⟨w.heap.size, 4, none⟩ = some (.int .i64 yk) ∧ w'.cell? ⟨g, 4, none⟩ = some (.slice x.A4 x.n4 x.c4)) (first | go_keep | (refine ⟨?_, ?_, ?_⟩ <;> assumption)) (first | ((go_at_call 249; (with_reducible refine (htk S0.out.drew.lk).mono ?_); rintro e w1 hk1); have S1 := hdd (S0.out.drew.next hk1); obtain ⟨rfl, _, _, _⟩ := hk1; obtain ⟨z1_0, z1_1, z1_2, z1_3, z1_4, z1_5⟩ := S1.out.ib.cells; obtain ⟨_, _, _, g1_4, _, _, _, gl1⟩ := S1.out.lk.cells) | ((go_at_call 248; (with_reducible refine (qd8 S1.out.lk _).mono ?_); rintro e w2 hk2); have S2 := hdd (S1.out.next hk2); obtain ⟨rfl, _, _, _⟩ := hk2; obtain ⟨z2_0, z2_1, z2_2, z2_3, z2_4, z2_5⟩ := S2.out.ib.cells; obtain ⟨_, _, _, g2_4, g2_7, _, gf2, gl2⟩ := S2.out.lk.cells) | fail "no arm"); rw [HPT.out] at g2_7
        by_cases hmin : yk ≤ (x.n4 : Int)
        · by_cases hmax : s.past ≤ (i : Int) + 1 + yk
          · skip
            go_upto_region 6 with fail; go_region
            all_goals go_wp2
            all_goals
              go_end0; refine ((S2.out.next (qp8 S2.out.lk _)).drew.done).as (qs8 ?_ ?_)
              · first
                  | exact hB.out
                  | (rw [← hB.out, decide_eq_false_iff_not]; omega)
                  | (exfalso; omega)
              · have := HM.out; omega
          · skip
            go_upto_region 6 with fail; go_region
            all_goals go_wp2
            all_goals
              go_end0; refine ((S2.out.next (qp8 S2.out.lk _)).drew.done).as (qs8 ?_ ?_)
              · first
                  | exact hB.out
                  | (rw [← hB.out, decide_eq_false_iff_not]; omega)
                  | (exfalso; omega)
              · have := HM.out; omega
        · by_cases hmax : s.past ≤ (i : Int) + 1 + (x.n4 : Int)
          · skip
            go_upto_region 6 with fail; go_region
            all_goals go_wp2
            all_goals
              go_end0; refine ((S2.out.next (qp8 S2.out.lk _)).drew.done).as (qs8 ?_ ?_)
              · first
                  | exact hB.out
                  | (rw [← hB.out, decide_eq_false_iff_not]; omega)
                  | (exfalso; omega)
              · have := HM.out; omega
          · skip
            go_upto_region 6 with fail; go_region
            all_goals go_wp2
            all_goals
              go_end0; refine ((S2.out.next (qp8 S2.out.lk _)).drew.done).as (qs8 ?_ ?_)
              · first
                  | exact hB.out
                  | (rw [← hB.out, decide_eq_false_iff_not]; omega)
                  | (exfalso; omega)
              · have := HM.out; omega
    · have kd : decide (0 ≤ yk) = false := decide_eq_false k0; have hB := hdd (show false = tb from by rw [← htb, decide_eq_false k0, Bool.false_and, Bool.and_false]); clear htb; go_enter Tryz.func203, Tryz.ntmps203; go_upto_region 5 with (first | (go_at_call 245; (with_reducible refine (hsg _).mono ?_); rintro e w1 ⟨rfl, rfl⟩) | fail "no arm"); refine wp_region_held_drew (S := fun w' => w'.cell? ⟨w.heap.size, 1, none⟩ = some (.int .i64 ya) ∧ w'.cell? ⟨w.heap.size, 4, none⟩ = some (.int .i64 yk) ∧ w'.cell? ⟨g, 4, none⟩ = some (.slice x.A4 x.n4 x.c4)) (by kernel_rfl) ⟨z1, z4, g4⟩ (fun hHeld => ?_); refine tkS 0 ?_; refine tkS 1 ?_; refine tkS 2 ?_; refine tkS 3 ?_ (hy := Or.inl ⟨by rfl, by (intro w hSw; (try dsimp only at hSw); obtain ⟨s1, s2, s3⟩ := hSw; go_simp; rfl)⟩); refine on1 4 (fun K hK => ?_); go_simp
      (go_at_call 249; (with_reducible refine (htk S0.out.drew.lk).mono ?_); rintro e w1 hk1)
      have S1 := hdd (S0.out.drew.next hk1); obtain ⟨rfl, _, _, _⟩ := hk1; obtain ⟨z1_0, z1_1, z1_2, z1_3, z1_4, z1_5⟩ := S1.out.ib.cells; obtain ⟨_, _, _, g1_4, _, _, _, gl1⟩ := S1.out.lk.cells; refine hK.out _ _ (⟨z1_1, z1_4, g1_4⟩) (fun hHeld => ?_); clear hK K; refine nmz ?_; refine tkS 5 ?_; refine tkS 6 ?_; refine tkS 7 ?_; refine tkS 8 ?_ (hy := Or.inl ⟨by rfl, by (intro w hSw; (try dsimp only at hSw); obtain ⟨s1, s2, s3⟩ := hSw; go_simp; rfl)⟩); refine tkS 9 ?_; refine tkS 10 ?_; refine tkS 11 ?_; refine tkU 12 ?_; refine tkU 13 ?_; refine tkU 14 ?_; refine tkU 15 ?_; refine tkU 16 ?_; refine tkU 17 ?_; refine tkU 18 ?_; refine tkU 19 ?_; refine tkU 20 ?_; refine tkU 21 ?_; refine tkU 22 ?_; refine tkU 23 ?_; refine tkS 24 ?_; refine on1 25 (fun K hK => ?_); go_simp
      (go_at_call 248; (with_reducible refine (qd8 S1.out.lk _).mono ?_); rintro e w2 hk2)
      have S2 := hdd (S1.out.next hk2); obtain ⟨rfl, _, _, _⟩ := hk2; obtain ⟨z2_0, z2_1, z2_2, z2_3, z2_4, z2_5⟩ := S2.out.ib.cells; obtain ⟨_, _, _, g2_4, g2_7, _, gf2, gl2⟩ := S2.out.lk.cells; refine hK.out _ _ (⟨z2_1, z2_4, g2_4⟩) (fun hHeld => ?_); clear hK K; refine nmz ?_; refine wpAnyH_done (by decide +kernel) ?_ _; rw [HPT.out] at g2_7; have hmin : yk ≤ (x.n4 : Int) := omg
      by_cases hmax : s.past ≤ (i : Int) + 1 + yk
      · skip
        go_upto_region 6 with fail; go_region
        all_goals go_wp2
        all_goals
          go_end0; refine ((S2.out.next (qp8 S2.out.lk _)).drew.done).as (qs8 ?_ ?_)
          · first
              | exact hB.out
              | (rw [← hB.out, decide_eq_false_iff_not]; omega)
              | (exfalso; omega)
          · have := HM.out; omega
      · skip
        go_upto_region 6 with fail; go_region
        all_goals go_wp2
        all_goals
          go_end0; refine ((S2.out.next (qp8 S2.out.lk _)).drew.done).as (qs8 ?_ ?_)
          · first
              | exact hB.out
              | (rw [← hB.out, decide_eq_false_iff_not]; omega)
              | (exfalso; omega)
          · have := HM.out; omega
  · have t2b : (tv == 2) = false := by rw [beq_eq_false_iff_ne]; exact t2
    have hB := hdd (show false = tb from by rw [← htb, decide_eq_false t2, Bool.false_and]); clear htb; go_enter Tryz.func203, Tryz.ntmps203; go_upto_region 5 with (first | (go_at_call 245; (with_reducible refine (hsg _).mono ?_); rintro e w1 ⟨rfl, rfl⟩) | fail "no arm"); refine wp_region_held_drew (S := fun w' => w'.cell? ⟨w.heap.size, 1, none⟩ = some (.int .i64 ya) ∧ w'.cell? ⟨w.heap.size, 4, none⟩ = some (.int .i64 yk) ∧ w'.cell? ⟨g, 4, none⟩ = some (.slice x.A4 x.n4 x.c4)) (by kernel_rfl) ⟨z1, z4, g4⟩ (fun hHeld => ?_); refine tkS 0 ?_; refine tkS 1 ?_; refine tkS 2 ?_; refine tkS 3 ?_ (hy := Or.inl ⟨by rfl, by (intro w hSw; (try dsimp only at hSw); obtain ⟨s1, s2, s3⟩ := hSw; go_simp; rfl)⟩); refine on1 4 (fun K hK => ?_); go_simp
    (go_at_call 249; (with_reducible refine (htk S0.out.drew.lk).mono ?_); rintro e w1 hk1)
    have S1 := hdd (S0.out.drew.next hk1); obtain ⟨rfl, _, _, _⟩ := hk1; obtain ⟨z1_0, z1_1, z1_2, z1_3, z1_4, z1_5⟩ := S1.out.ib.cells; obtain ⟨_, _, _, g1_4, _, _, _, gl1⟩ := S1.out.lk.cells; refine hK.out _ _ (⟨z1_1, z1_4, g1_4⟩) (fun hHeld => ?_); clear hK K; refine nmz ?_; refine tkS 5 ?_; refine tkS 6 ?_; refine tkU 7 ?_; refine tkU 8 ?_; refine tkU 9 ?_; refine tkS 10 ?_; refine tkS 11 ?_; refine tkU 12 ?_; refine tkU 13 ?_; refine tkU 14 ?_; refine tkU 15 ?_; refine tkU 16 ?_; refine tkU 17 ?_; refine tkU 18 ?_; refine tkU 19 ?_; refine tkU 20 ?_; refine tkU 21 ?_; refine tkU 22 ?_; refine tkU 23 ?_; refine tkS 24 ?_; refine on1 25 (fun K hK => ?_); go_simp
    (go_at_call 248; (with_reducible refine (qd8 S1.out.lk _).mono ?_); rintro e w2 hk2)
    have S2 := hdd (S1.out.next hk2); obtain ⟨rfl, _, _, _⟩ := hk2; obtain ⟨z2_0, z2_1, z2_2, z2_3, z2_4, z2_5⟩ := S2.out.ib.cells; obtain ⟨_, _, _, g2_4, g2_7, _, gf2, gl2⟩ := S2.out.lk.cells; refine hK.out _ _ (⟨z2_1, z2_4, g2_4⟩) (fun hHeld => ?_); clear hK K; refine nmz ?_; refine wpAnyH_done (by decide +kernel) ?_ _; rw [HPT.out] at g2_7
    by_cases hmin : yk ≤ (x.n4 : Int)
    · by_cases hmax : s.past ≤ (i : Int) + 1 + yk
      · skip
        go_upto_region 6 with fail; go_region
        all_goals go_wp2
        all_goals
          go_end0; refine ((S2.out.next (qp8 S2.out.lk _)).drew.done).as (qs8 ?_ ?_)
          · first
              | exact hB.out
              | (rw [← hB.out, decide_eq_false_iff_not]; omega)
              | (exfalso; omega)
          · have := HM.out; omega
      · skip
        go_upto_region 6 with fail; go_region
        all_goals go_wp2
        all_goals
          go_end0; refine ((S2.out.next (qp8 S2.out.lk _)).drew.done).as (qs8 ?_ ?_)
          · first
              | exact hB.out
              | (rw [← hB.out, decide_eq_false_iff_not]; omega)
              | (exfalso; omega)
          · have := HM.out; omega
    · by_cases hmax : s.past ≤ (i : Int) + 1 + (x.n4 : Int)
      · skip
        go_upto_region 6 with fail; go_region
        all_goals go_wp2
        all_goals
          go_end0; refine ((S2.out.next (qp8 S2.out.lk _)).drew.done).as (qs8 ?_ ?_)
          · first
              | exact hB.out
              | (rw [← hB.out, decide_eq_false_iff_not]; omega)
              | (exfalso; omega)
          · have := HM.out; omega
      · skip
        go_upto_region 6 with fail; go_region
        all_goals go_wp2
        all_goals
          go_end0; refine ((S2.out.next (qp8 S2.out.lk _)).drew.done).as (qs8 ?_ ?_)
          · first
              | exact hB.out
              | (rw [← hB.out, decide_eq_false_iff_not]; omega)
              | (exfalso; omega)
          · have := HM.out; omega
end
end Go.Proofs.YtpmkpckldnnigaaGreat
