/- Parts: VerifyC, VerifyD. -/
import Derived.Test.YtalmdccgpigppaaPr43
import Derived.Test.YtalmdccgpigppaaPr39
namespace Go.Proofs.Ytalmdccgpigppaa
open Go.RowKit
set_option linter.unusedVariables false
set_option linter.unusedSimpArgs false
section
variable {w w' : World} {base g : Nat} {x : PA} {p : PV} {s s' : LkV}
/-- The program is older than the looker. -/
def Olds (w : World) (base : Nat) (x : PA) (p : PV) : Prop := ∃ w0, ProgRd w0 x p ∧ w0.heap.size ≤ base ∧ Below base w0 w
theorem Olds.rd (h : Olds w base x p) (hb : Below base w w') : ProgRd w' x p := by
  obtain ⟨w0, h1, h2, h3⟩ := h
  exact h1.below (h3.trans hb) h2
set_option maxRecDepth 100000 in
set_option maxHeartbeats 4000000 in
theorem lkinstr_cell (h : LkAt w base g x p s) (hs : base ≤ w.heap.size) (hp : Olds w base x p) (y : Ins) (i : Nat) (ho : y.op = 21) :
    Calls Try.prog 126 #[.pointer (some ⟨g, 0, none⟩), .int .i64 (i : Nat), .agg #[.int .i64 y.op, .int .i64 y.a, .int .i64 y.b, .int .i64 y.c, .int .i64 y.k]] w (LkPost w base g x p (instrV p s i y) none) := by
  obtain ⟨op, ya, yb, yc, yk⟩ := y
  have S0 := Lib.hid (show LkS w base g x p ⟨op, ya, yb, yc, yk⟩ w.heap.size s (w.alloc (.cells #[.int .i64 op, .int .i64 ya, .int .i64 yb, .int .i64 yc, .int .i64 yk] 162)) from LkS.first h hs ⟨op, ya, yb, yc, yk⟩)
  simp only at ho
  subst ho
  have hsg := fun W => sign_any 21 W
  rw [show sgn3 21 = (0, 0, false) from rfl] at hsg
  obtain ⟨z0, z1, z2, z3, z4, z5⟩ := S0.out.ib.cells
  go_enter Try.func126, Try.ntmps126
  go_upto_region 20 with (first
    | (go_at_call 137; (with_reducible refine (hsg _).mono ?_); rintro e w1 ⟨rfl, rfl⟩)
    | fail "no arm")
  go_region_held3 (fun w' => w'.cell? ⟨w.heap.size, 1, none⟩ = some (.int .i64 ya) ∧ w'.cell? ⟨w.heap.size, 4, none⟩ = some (.int .i64 yk)) (first | go_keep | (refine ⟨?_, ?_⟩ <;> assumption)) (first
    | ((go_at_call 142; (with_reducible refine (lkcell_any S0.out.drew.lk (hp.rd S0.out.drew.bel) _).mono ?_); rintro e w1 hk1); have S1 := Lib.hid (S0.out.drew.next hk1); obtain ⟨rfl, _, _, _⟩ := hk1; obtain ⟨z1_0, z1_1, z1_2, z1_3, z1_4, z1_5⟩ := S1.out.ib.cells)
    | ((go_at_call 139; (with_reducible refine (lkgives_any S1.out.lk _ _).mono ?_); rintro e w6 hk6); have S6 := Lib.hid (S1.out.next hk6); obtain ⟨rfl, _, _, _⟩ := hk6; obtain ⟨z6_0, z6_1, z6_2, z6_3, z6_4, z6_5⟩ := S6.out.ib.cells)
    | fail "no arm")
  go_wp2
  go_end0
  exact S6.out.done.as rfl
set_option maxRecDepth 100000 in
set_option maxHeartbeats 4000000 in
theorem lkinstr_in (h : LkAt w base g x p s) (hs : base ≤ w.heap.size) (hp : Olds w base x p) (y : Ins) (i : Nat) (ho : y.op = 28) :
    Calls Try.prog 126 #[.pointer (some ⟨g, 0, none⟩), .int .i64 (i : Nat), .agg #[.int .i64 y.op, .int .i64 y.a, .int .i64 y.b, .int .i64 y.c, .int .i64 y.k]] w (LkPost w base g x p (instrV p s i y) none) := by
  obtain ⟨op, ya, yb, yc, yk⟩ := y
  have S0 := Lib.hid (show LkS w base g x p ⟨op, ya, yb, yc, yk⟩ w.heap.size s (w.alloc (.cells #[.int .i64 op, .int .i64 ya, .int .i64 yb, .int .i64 yc, .int .i64 yk] 162)) from LkS.first h hs ⟨op, ya, yb, yc, yk⟩)
  simp only at ho
  subst ho
  have hsg := fun W => sign_any 28 W
  rw [show sgn3 28 = (0, 0, false) from rfl] at hsg
  obtain ⟨z0, z1, z2, z3, z4, z5⟩ := S0.out.ib.cells
  obtain ⟨g0, g1, g3, g4, g7, g8, gf, gl⟩ := S0.out.lk.cells
  clear g1 g3 g4 g7 g8
  go_enter Try.func126, Try.ntmps126
  go_upto_region 22 with (first
    | (go_at_call 137; (with_reducible refine (hsg _).mono ?_); rintro e w1 ⟨rfl, rfl⟩)
    | fail "no arm")
  go_region_held3 (fun w' => w'.cell? ⟨w.heap.size, 1, none⟩ = some (.int .i64 ya) ∧ w'.cell? ⟨w.heap.size, 4, none⟩ = some (.int .i64 yk) ∧ w'.cell? ⟨g, 0, none⟩ = some (.slice x.A1 x.n1 x.c1)) (first | go_keep | (refine ⟨?_, ?_, ?_⟩ <;> assumption)) (first
    | ((go_at_call 143; (with_reducible refine (lkone_any S0.out.drew.lk _ _ _ _ (hp.rd S0.out.drew.bel).r1 _).mono ?_); rintro e w1 hk1); have S1 := Lib.hid (S0.out.drew.next hk1); obtain ⟨rfl, _, _, _⟩ := hk1; obtain ⟨z1_0, z1_1, z1_2, z1_3, z1_4, z1_5⟩ := S1.out.ib.cells; obtain ⟨g1_0, _, _, _, _, _, _, _⟩ := S1.out.lk.cells)
    | ((go_at_call 139; (with_reducible refine (lkgives_any S1.out.lk _ _).mono ?_); rintro e w6 hk6); have S6 := Lib.hid (S1.out.next hk6); obtain ⟨rfl, _, _, _⟩ := hk6; obtain ⟨z6_0, z6_1, z6_2, z6_3, z6_4, z6_5⟩ := S6.out.ib.cells; obtain ⟨g6_0, _, _, _, _, _, _, _⟩ := S6.out.lk.cells)
    | fail "no arm")
  go_wp2
  go_end0
  exact S6.out.done.as rfl
set_option maxRecDepth 100000 in
set_option maxHeartbeats 4000000 in
theorem lkinstr_keep (h : LkAt w base g x p s) (hs : base ≤ w.heap.size) (hp : Olds w base x p) (y : Ins) (i : Nat) (ho : y.op = 32) :
    Calls Try.prog 126 #[.pointer (some ⟨g, 0, none⟩), .int .i64 (i : Nat), .agg #[.int .i64 y.op, .int .i64 y.a, .int .i64 y.b, .int .i64 y.c, .int .i64 y.k]] w (LkPost w base g x p (instrV p s i y) none) := by
  obtain ⟨op, ya, yb, yc, yk⟩ := y
  have S0 := Lib.hid (show LkS w base g x p ⟨op, ya, yb, yc, yk⟩ w.heap.size s (w.alloc (.cells #[.int .i64 op, .int .i64 ya, .int .i64 yb, .int .i64 yc, .int .i64 yk] 162)) from LkS.first h hs ⟨op, ya, yb, yc, yk⟩)
  simp only at ho
  subst ho
  have hsg := fun W => sign_any 32 W
  rw [show sgn3 32 = (0, 0, false) from rfl] at hsg
  obtain ⟨z0, z1, z2, z3, z4, z5⟩ := S0.out.ib.cells
  go_enter Try.func126, Try.ntmps126
  go_upto_region 30 with (first
    | (go_at_call 137; (with_reducible refine (hsg _).mono ?_); rintro e w1 ⟨rfl, rfl⟩)
    | fail "no arm")
  go_region_held3 (fun w' => w'.cell? ⟨w.heap.size, 1, none⟩ = some (.int .i64 ya) ∧ w'.cell? ⟨w.heap.size, 4, none⟩ = some (.int .i64 yk)) (first | go_keep | (refine ⟨?_, ?_⟩ <;> assumption)) (first
    | ((go_at_call 141; (with_reducible refine (lktakes_any S0.out.drew.lk _).mono ?_); rintro e w1 hk1); have S1 := Lib.hid (S0.out.drew.next hk1); obtain ⟨rfl, _, _, _⟩ := hk1; obtain ⟨z1_0, z1_1, z1_2, z1_3, z1_4, z1_5⟩ := S1.out.ib.cells)
    | ((go_at_call 142; (with_reducible refine (lkcell_any S1.out.lk (hp.rd S1.out.bel) _).mono ?_); rintro e w2 hk2); have S2 := Lib.hid (S1.out.next hk2); obtain ⟨rfl, _, _, _⟩ := hk2; obtain ⟨z2_0, z2_1, z2_2, z2_3, z2_4, z2_5⟩ := S2.out.ib.cells)
    | ((go_at_call 140; (with_reducible refine (lkneed_any S2.out.lk _).mono ?_); rintro e w6 hk6); have S6 := Lib.hid (S2.out.next hk6); obtain ⟨rfl, _, _, _⟩ := hk6; obtain ⟨z6_0, z6_1, z6_2, z6_3, z6_4, z6_5⟩ := S6.out.ib.cells)
    | fail "no arm")
  go_wp2
  go_end0
  exact S6.out.done.as rfl
end
end Go.Proofs.Ytalmdccgpigppaa
namespace Go.Proofs.Ytalmdccgpigppaa
open Go.RowKit
set_option linter.unusedVariables false
set_option linter.unusedSimpArgs false
section
variable {w w' : World} {base g : Nat} {x : PA} {p : PV} {s s' : LkV}
theorem outs_at (h : LkAt w base g x p s) {k : Nat} (hk : k < s.outs.length) : ∃ go no co, w.cell? ⟨g, 6, none⟩ = some (.slice (some ⟨go, 0, none⟩) no co) ∧ k < no ∧ w.cell? ⟨go, k, none⟩ = some (.bool (s.outs.getD k false)) ∧ w.frozen? ⟨go, k, none⟩ = false ∧ go < w.heap.size ∧ g ≠ go ∧
    LkPost w base g x p { s with outs := s.outs.set k true } none (.returned (.tuple #[])) (w.setCell ⟨go, k, none⟩ (.bool true)) := by
  obtain ⟨K, nk, ck, O, no, co, hb, hg, hk', ho⟩ := h
  have hol := ho.1
  obtain ⟨go, hO, hgo, hgl⟩ := ho.addr (by omega)
  obtain ⟨b1, o1, hO1, hb1, hc⟩ := ho.rd.2.at_ (show k < no by omega)
  rw [hO] at hO1
  injection hO1 with hO1
  injection hO1 with q1 q2 _
  subst q1 q2
  rw [getD_map s.outs k hk, Nat.zero_add] at hc
  have e : s.outs.getD k false = s.outs[k] := by rw [List.getD_eq_getElem?_getD, List.getElem?_eq_getElem hk]; rfl
  subst hO
  obtain ⟨cs, hbk⟩ := lkblk (g := go) ho rfl
  have hne9 : g ≠ go := hb.ne_ hbk (by decide)
  exact ⟨go, no, co, hb.cell 6, by omega, by rw [e]; exact hc, ho.free k, hgl, hne9, rfl, ⟨K, nk, ck, _, no, co, hb.far (p := ⟨go, k, none⟩) hne9 _, hg, hk'.setFar hbk (by decide) k _, ho.set k true _ rfl⟩, (Below.refl _ _).setCell hgo _, Stay.set hbk (by decide) _ _⟩
theorem lkneed_set (h : LkAt w base g x p s) (hb0 : s.bad = false) (b : Bool) : Calls Try.prog 140 #[.pointer (some ⟨g, 0, none⟩), .bool b] w fun e w' => LkPost w base g x p (needV s b) none e w' ∧ w' = w.setCell ⟨g, 8, none⟩ (.bool (!b)) := by
  obtain ⟨K, nk, ck, O, no, co, hb, hg, hk, ho⟩ := h
  have c8 : w.cell? ⟨g, 8, none⟩ = some (.bool s.bad) := hb.cell 8
  have f8 := hb.frozen 8
  have hl := hb.lt
  have HB := Lib.hid hb
  have HK := Lib.hid hk
  have HO := Lib.hid ho
  have HB0 := Lib.hid hb0
  clear hb hk ho
  rw [hb0] at c8
  clear hb0
  go_enter Try.func140, Try.ntmps140
  go_wp2
  go_end0
  refine ⟨⟨rfl, ⟨K, nk, ck, O, no, co, ?_, hg, HK.out.setFar HB.out (by decide) 8 _, HO.out.setFar HB.out (by decide) 8 _⟩, (Below.refl _ _).setCell hg _, Stay.set HB.out (by decide) _ _⟩, rfl⟩
  have := HB.out.set_ 8 (.bool (!b))
  simpa [lkC, needV, HB0.out] using this
set_option maxRecDepth 100000 in
set_option maxHeartbeats 4000000 in
theorem lkinstr_out (h : LkAt w base g x p s) (hs : base ≤ w.heap.size) (hp : Olds w base x p) (y : Ins) (i : Nat) (ho : y.op = 29) (hol : s.outs.length = p.outs.length) :
    Calls Try.prog 126 #[.pointer (some ⟨g, 0, none⟩), .int .i64 (i : Nat), .agg #[.int .i64 y.op, .int .i64 y.a, .int .i64 y.b, .int .i64 y.c, .int .i64 y.k]] w (LkPost w base g x p (instrV p s i y) none) := by
  obtain ⟨op, ya, yb, yc, yk⟩ := y
  have S0 := Lib.hid (show LkS w base g x p ⟨op, ya, yb, yc, yk⟩ w.heap.size s (w.alloc (.cells #[.int .i64 op, .int .i64 ya, .int .i64 yb, .int .i64 yc, .int .i64 yk] 162)) from LkS.first h hs ⟨op, ya, yb, yc, yk⟩)
  simp only at ho
  subst ho
  have hsg := fun W => sign_any 29 W
  rw [show sgn3 29 = (0, 0, false) from rfl] at hsg
  obtain ⟨z0, z1, z2, z3, z4, z5⟩ := S0.out.ib.cells
  obtain ⟨g0, g1, g3, g4, g7, g8, gf, gl⟩ := S0.out.lk.cells
  clear g0 g3 g4 g8
  go_enter Try.func126, Try.ntmps126
  go_upto_region 24 with (first
    | (go_at_call 137; (with_reducible refine (hsg _).mono ?_); rintro e w1 ⟨rfl, rfl⟩)
    | fail "no arm")
  go_region_held3 (fun w' => w'.cell? ⟨w.heap.size, 1, none⟩ = some (.int .i64 ya) ∧ w'.cell? ⟨w.heap.size, 4, none⟩ = some (.int .i64 yk) ∧ w'.cell? ⟨g, 1, none⟩ = some (.slice x.A2 x.n2 x.c2)) (first | go_keep | (refine ⟨?_, ?_, ?_⟩ <;> assumption)) (first
    | ((go_at_call 141; (with_reducible refine (lktakes_any S0.out.drew.lk _).mono ?_); rintro e w1 hk1); have S1 := Lib.hid (S0.out.drew.next hk1); obtain ⟨rfl, _, _, _⟩ := hk1; obtain ⟨z1_0, z1_1, z1_2, z1_3, z1_4, z1_5⟩ := S1.out.ib.cells; obtain ⟨_, g1_1, _, _, _, _, _, gl1⟩ := S1.out.lk.cells)
    | ((go_at_call 143; (with_reducible refine (lkone_any S1.out.lk _ _ _ _ (hp.rd S1.out.bel).r2 _).mono ?_); rintro e w2 hk2); have S2 := Lib.hid (S1.out.next hk2); obtain ⟨rfl, _, _, _⟩ := hk2; obtain ⟨z2_0, z2_1, z2_2, z2_3, z2_4, z2_5⟩ := S2.out.ib.cells; obtain ⟨_, g2_1, _, _, _, _, _, gl2⟩ := S2.out.lk.cells)
    | ((go_at_call 140; (with_reducible refine (lkneed_any S2.out.lk _).mono ?_); rintro e w3 hk3); have S3 := Lib.hid (S2.out.next hk3); obtain ⟨rfl, _, _, _⟩ := hk3; obtain ⟨z3_0, z3_1, z3_2, z3_3, z3_4, z3_5⟩ := S3.out.ib.cells; obtain ⟨_, g3_1, _, _, g3_7, _, _, gl3⟩ := S3.out.lk.cells)
    | fail "no arm")
  have hpast : (needV (oneV (takesV s ya).1 p.outs yk).1 ((takesV s ya).2 == (oneV (takesV s ya).1 p.outs yk).2)).past = s.past := by
    rw [takesV_eq, oneV_eq]; rfl
  rw [hpast] at g3_7
  go_upto_region 26 with (first
    | ((go_at_call 140; (with_reducible refine (lkneed_any S3.out.lk _).mono ?_); rintro e w4 hk4); have S4 := Lib.hid (S3.out.next hk4); obtain ⟨rfl, _, _, _⟩ := hk4; obtain ⟨z4_0, z4_1, z4_2, z4_3, z4_4, z4_5⟩ := S4.out.ib.cells)
    | fail "no arm")
  have hfin : instrV p s i ⟨29, ya, yb, yc, yk⟩ = (if (needV (needV (oneV (takesV s ya).1 p.outs yk).1 ((takesV s ya).2 == (oneV (takesV s ya).1 p.outs yk).2)) (decide (s.past ≤ (i : Int)))).bad then (needV (needV (oneV (takesV s ya).1 p.outs yk).1 ((takesV s ya).2 == (oneV (takesV s ya).1 p.outs yk).2)) (decide (s.past ≤ (i : Int)))) else { needV (needV (needV (oneV (takesV s ya).1 p.outs yk).1 ((takesV s ya).2 == (oneV (takesV s ya).1 p.outs yk).2)) (decide (s.past ≤ (i : Int)))) (!((needV (needV (oneV (takesV s ya).1 p.outs yk).1 ((takesV s ya).2 == (oneV (takesV s ya).1 p.outs yk).2)) (decide (s.past ≤ (i : Int)))).outs.getD yk.toNat false)) with outs := (needV (needV (oneV (takesV s ya).1 p.outs yk).1 ((takesV s ya).2 == (oneV (takesV s ya).1 p.outs yk).2)) (decide (s.past ≤ (i : Int)))).outs.set yk.toNat true }) := by
    show (if _ then _ else _) = _
    rfl
  have hrange : (needV (needV (oneV (takesV s ya).1 p.outs yk).1 ((takesV s ya).2 == (oneV (takesV s ya).1 p.outs yk).2)) (decide (s.past ≤ (i : Int)))).bad = false → 0 ≤ yk ∧ yk < (p.outs.length : Int) := fun e => by
    by_cases q : yk < 0 ∨ (p.outs.length : Int) ≤ yk
    · exfalso
      rw [oneV_eq, decide_eq_true q] at e
      simp [needV] at e
    · omega
  have hlen : (needV (needV (oneV (takesV s ya).1 p.outs yk).1 ((takesV s ya).2 == (oneV (takesV s ya).1 p.outs yk).2)) (decide (s.past ≤ (i : Int)))).outs.length = p.outs.length := by
    rw [takesV_eq, oneV_eq]; exact hol
  generalize needV (needV (oneV (takesV s ya).1 p.outs yk).1 ((takesV s ya).2 == (oneV (takesV s ya).1 p.outs yk).2)) (decide (s.past ≤ (i : Int))) = s4 at *
  have HF := Lib.hid hfin
  have HL := Lib.hid hlen
  obtain ⟨_, _, _, _, _, g4_8, _, gl4⟩ := S4.out.lk.cells
  clear hfin hlen hpast
  cases hb : s4.bad with
  | true =>
    rw [hb] at g4_8
    have HB := Lib.hid hb
    clear hb hrange
    go_wp2_with fail
    go_end0
    refine S4.out.done.as ?_
    rw [HF.out, if_pos HB.out]
  | false =>
    rw [hb] at g4_8
    obtain ⟨r1, r2⟩ := hrange hb
    obtain ⟨k, rfl⟩ : ∃ k : Nat, yk = k := ⟨yk.toNat, by omega⟩
    have HB := Lib.hid hb
    clear hb hrange r1
    obtain ⟨go, no, co, c6, hkn, cgo, fgo, lgo, hne, hst⟩ := outs_at S4.out.lk (k := k) (by rw [HL.out]; omega)
    clear hst
    have hk4 : k < s4.outs.length := by rw [HL.out]; omega
    have n6 : (⟨g, 8, none⟩ : Addr) ≠ ⟨g, 6, none⟩ := by simp
    have nk : (⟨g, 8, none⟩ : Addr) ≠ ⟨go, k, none⟩ := fun e => hne (by injection e)
    have N6 := Lib.hid n6
    have NK := Lib.hid nk
    clear n6 nk
    have HK4 := Lib.hid hk4
    clear hk4
    generalize hov : s4.outs.getD k false = ov at *
    have HOV := Lib.hid hov
    clear hov
    go_upto_region 27 with fail
    go_region_held3 (fun w' => w'.cell? ⟨w.heap.size, 4, none⟩ = some (.int .i64 (k : Nat)) ∧ w'.cell? ⟨g, 6, none⟩ = some (.slice (some ⟨go, 0, none⟩) no co) ∧ w'.cell? ⟨go, k, none⟩ = some (.bool ov)) (first | go_keep | (refine ⟨?_, ?_, ?_⟩ <;> assumption)) (first
      | ((go_at_call 140; (with_reducible refine (lkneed_set S4.out.drew.lk HB.out _).mono ?_); rintro e w5 ⟨hk5, hw5⟩); have S5 := Lib.hid (S4.out.drew.next hk5); obtain ⟨rfl, _, _, _⟩ := hk5; obtain ⟨z5_0, z5_1, z5_2, z5_3, z5_4, z5_5⟩ := S5.out.ib.cells; have c65 : w5.cell? ⟨g, 6, none⟩ = some (.slice (some ⟨go, 0, none⟩) no co) := (by rw [hw5]; exact (World.cell?_setCell_other _ _ _ _ N6.out).trans c6); have cgo5 : w5.cell? ⟨go, k, none⟩ = some (.bool ov) := (by rw [hw5]; exact (World.cell?_setCell_other _ _ _ _ NK.out).trans cgo); clear hw5)
      | fail "no arm")
    obtain ⟨go5, no5, co5, c65b, hkn5, cgo5b, fgo5, lgo5, hne5, hst5⟩ := outs_at S5.out.lk (k := k) (show k < (needV s4 (!ov)).outs.length from HK4.out)
    have e5 := c65.symm.trans c65b
    injection e5 with e5
    injection e5 with e5 _ _
    injection e5 with e5
    injection e5 with e5 _ _
    subst e5
    have H5 := Lib.hid (S5.out.next hst5)
    clear c65b hkn5 cgo5b hst5
    go_upto_region 28 with fail
    go_region
    go_wp2
    go_end0
    exact H5.out.drew.done.as (by rw [HF.out, if_neg (by rw [HB.out]; simp), Int.toNat_natCast, HOV.out]; rfl)
end
end Go.Proofs.Ytalmdccgpigppaa
