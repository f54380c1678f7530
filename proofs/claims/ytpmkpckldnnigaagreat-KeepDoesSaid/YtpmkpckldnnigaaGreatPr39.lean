/- Parts: VerifyC, KeepR. -/
import Derived.Test.YtpmkpckldnnigaaGreatPr02
import Derived.Test.YtpmkpckldnnigaaGreatPr36
import Derived.Test.YtpmkpckldnnigaaGreatPr38
import Derived.Test.YtpmkpckldnnigaaGreatPr26
import Derived.Test.YtpmkpckldnnigaaGreatPr34
import Derived.Test.YtpmkpckldnnigaaGreatPr35
set_option linter.unusedVariables false
set_option linter.unusedSimpArgs false
set_option maxRecDepth 100000
set_option maxHeartbeats 40000000
namespace Go.Proofs.YtpmkpckldnnigaaGreat
open Go.RowKit
section
variable {w w' : World} {base g : Nat} {x : PA} {p : PV} {s s' : LkV}
def Olds (w : World) (base : Nat) (x : PA) (p : PV) : Prop := ∃ w0, qc8 w0 x p ∧ w0.heap.size ≤ base ∧ Below base w0 w
theorem Olds.rd (h : Olds w base x p) (hb : Below base w w') : qc8 w' x p := by
  obtain ⟨w0, h1, h2, h3⟩ := h; exact h1.below (h3.trans hb) h2
theorem lkinstr_cell (h : LkAt w base g x p s) (hs : base ≤ w.heap.size) (hp : Olds w base x p) (y : Ins) (i : Nat) (ho : y.op = 21) :
    Calls Tryz.prog 203 #[.pointer (some ⟨g, 0, none⟩), .int .i64 (i : Nat), .agg #[.int .i64 y.op, .int .i64 y.a, .int .i64 y.b, .int .i64 y.c, .int .i64 y.k]] w (qh9 w base g x p (qc5 p s i y) none) := by
  obtain ⟨op, ya, yb, yc, yk⟩ := y; have S0 := hdd (show LkS w base g x p ⟨op, ya, yb, yc, yk⟩ w.heap.size s (w.alloc (.cells #[.int .i64 op, .int .i64 ya, .int .i64 yb, .int .i64 yc, .int .i64 yk] 133)) from LkS.first h hs ⟨op, ya, yb, yc, yk⟩); simp only at ho; subst ho; have hsg := fun W => qp2 21 W
  rw [show sgn3 21 = (0, 0, false) from rfl] at hsg; obtain ⟨z0, z1, z2, z3, z4, z5⟩ := S0.out.ib.cells; go_enter Tryz.func203, Tryz.ntmps203; go_upto_region 20 with (first | (go_at_call 245; (with_reducible refine (hsg _).mono ?_); rintro e w1 ⟨rfl, rfl⟩) | fail "no arm"); go_region_held3 (fun w' => w'.cell? ⟨w.heap.size, 1, none⟩ = some (.int .i64 ya) ∧ w'.cell? ⟨w.heap.size, 4, none⟩ = some (.int .i64 yk)) (first | go_keep | (refine ⟨?_, ?_⟩ <;> assumption)) (first | ((go_at_call 250; (with_reducible refine (vi0 S0.out.drew.lk (hp.rd S0.out.drew.bel) _).mono ?_); rintro e w1 hk1); have S1 := hdd (S0.out.drew.next hk1); obtain ⟨rfl, _, _, _⟩ := hk1; obtain ⟨z1_0, z1_1, z1_2, z1_3, z1_4, z1_5⟩ := S1.out.ib.cells) | ((go_at_call 247; (with_reducible refine (qe0 S1.out.lk _ _).mono ?_); rintro e w6 hk6); have S6 := hdd (S1.out.next hk6); obtain ⟨rfl, _, _, _⟩ := hk6; obtain ⟨z6_0, z6_1, z6_2, z6_3, z6_4, z6_5⟩ := S6.out.ib.cells) | fail "no arm"); go_wp2; go_end0; exact S6.out.done.as rfl
theorem lkinstr_in (h : LkAt w base g x p s) (hs : base ≤ w.heap.size) (hp : Olds w base x p) (y : Ins) (i : Nat) (ho : y.op = 28) :
    Calls Tryz.prog 203 #[.pointer (some ⟨g, 0, none⟩), .int .i64 (i : Nat), .agg #[.int .i64 y.op, .int .i64 y.a, .int .i64 y.b, .int .i64 y.c, .int .i64 y.k]] w (qh9 w base g x p (qc5 p s i y) none) := by
  obtain ⟨op, ya, yb, yc, yk⟩ := y; have S0 := hdd (show LkS w base g x p ⟨op, ya, yb, yc, yk⟩ w.heap.size s (w.alloc (.cells #[.int .i64 op, .int .i64 ya, .int .i64 yb, .int .i64 yc, .int .i64 yk] 133)) from LkS.first h hs ⟨op, ya, yb, yc, yk⟩); simp only at ho; subst ho; have hsg := fun W => qp2 28 W
  rw [show sgn3 28 = (0, 0, false) from rfl] at hsg; obtain ⟨z0, z1, z2, z3, z4, z5⟩ := S0.out.ib.cells; obtain ⟨g0, g1, g3, g4, g7, g8, gf, gl⟩ := S0.out.lk.cells; clear g1 g3 g4 g7 g8; go_enter Tryz.func203, Tryz.ntmps203; go_upto_region 22 with (first | (go_at_call 245; (with_reducible refine (hsg _).mono ?_); rintro e w1 ⟨rfl, rfl⟩) | fail "no arm"); go_region_held3 (fun w' => w'.cell? ⟨w.heap.size, 1, none⟩ = some (.int .i64 ya) ∧ w'.cell? ⟨w.heap.size, 4, none⟩ = some (.int .i64 yk) ∧ w'.cell? ⟨g, 0, none⟩ = some (.slice x.A1 x.n1 x.c1)) (first | go_keep | (refine ⟨?_, ?_, ?_⟩ <;> assumption)) (first | ((go_at_call 251; (with_reducible refine (lkone_any S0.out.drew.lk _ _ _ _ (hp.rd S0.out.drew.bel).r1 _).mono ?_); rintro e w1 hk1); have S1 := hdd (S0.out.drew.next hk1); obtain ⟨rfl, _, _, _⟩ := hk1; obtain ⟨z1_0, z1_1, z1_2, z1_3, z1_4, z1_5⟩ := S1.out.ib.cells; obtain ⟨g1_0, _, _, _, _, _, _, _⟩ := S1.out.lk.cells) | ((go_at_call 247; (with_reducible refine (qe0 S1.out.lk _ _).mono ?_); rintro e w6 hk6); have S6 := hdd (S1.out.next hk6); obtain ⟨rfl, _, _, _⟩ := hk6; obtain ⟨z6_0, z6_1, z6_2, z6_3, z6_4, z6_5⟩ := S6.out.ib.cells; obtain ⟨g6_0, _, _, _, _, _, _, _⟩ := S6.out.lk.cells) | fail "no arm"); go_wp2; go_end0; exact S6.out.done.as rfl
theorem lkinstr_keep (h : LkAt w base g x p s) (hs : base ≤ w.heap.size) (hp : Olds w base x p) (y : Ins) (i : Nat) (ho : y.op = 32) :
    Calls Tryz.prog 203 #[.pointer (some ⟨g, 0, none⟩), .int .i64 (i : Nat), .agg #[.int .i64 y.op, .int .i64 y.a, .int .i64 y.b, .int .i64 y.c, .int .i64 y.k]] w (qh9 w base g x p (qc5 p s i y) none) := by
  obtain ⟨op, ya, yb, yc, yk⟩ := y; have S0 := hdd (show LkS w base g x p ⟨op, ya, yb, yc, yk⟩ w.heap.size s (w.alloc (.cells #[.int .i64 op, .int .i64 ya, .int .i64 yb, .int .i64 yc, .int .i64 yk] 133)) from LkS.first h hs ⟨op, ya, yb, yc, yk⟩); simp only at ho; subst ho; have hsg := fun W => qp2 32 W
  rw [show sgn3 32 = (0, 0, false) from rfl] at hsg; obtain ⟨z0, z1, z2, z3, z4, z5⟩ := S0.out.ib.cells; go_enter Tryz.func203, Tryz.ntmps203; go_upto_region 30 with (first | (go_at_call 245; (with_reducible refine (hsg _).mono ?_); rintro e w1 ⟨rfl, rfl⟩) | fail "no arm"); go_region_held3 (fun w' => w'.cell? ⟨w.heap.size, 1, none⟩ = some (.int .i64 ya) ∧ w'.cell? ⟨w.heap.size, 4, none⟩ = some (.int .i64 yk)) (first | go_keep | (refine ⟨?_, ?_⟩ <;> assumption)) (first | ((go_at_call 249; (with_reducible refine (qd9 S0.out.drew.lk _).mono ?_); rintro e w1 hk1); have S1 := hdd (S0.out.drew.next hk1); obtain ⟨rfl, _, _, _⟩ := hk1; obtain ⟨z1_0, z1_1, z1_2, z1_3, z1_4, z1_5⟩ := S1.out.ib.cells) | ((go_at_call 250; (with_reducible refine (vi0 S1.out.lk (hp.rd S1.out.bel) _).mono ?_); rintro e w2 hk2); have S2 := hdd (S1.out.next hk2); obtain ⟨rfl, _, _, _⟩ := hk2; obtain ⟨z2_0, z2_1, z2_2, z2_3, z2_4, z2_5⟩ := S2.out.ib.cells) | ((go_at_call 248; (with_reducible refine (qd8 S2.out.lk _).mono ?_); rintro e w6 hk6); have S6 := hdd (S2.out.next hk6); obtain ⟨rfl, _, _, _⟩ := hk6; obtain ⟨z6_0, z6_1, z6_2, z6_3, z6_4, z6_5⟩ := S6.out.ib.cells) | fail "no arm"); go_wp2; go_end0; exact S6.out.done.as rfl
end
def qj9 (X : Nat → Prop) (w : World) (base g : Nat) (q : qf0) (x : PA) (p : PV) (hash : Int) (k : KpV) : Prop :=
  ∃ gs A n c, Blk w g 61 (keepC gs x p hash k.last A n c k.has) ∧ base ≤ gs ∧ base ≤ g ∧ qe5 w base gs q 0 6 6 6 k.s ∧ qg1 w base A n k.last.cells ∧ n ≤ c ∧ c ≤ maxLen ∧ (0 < n → ∀ b, A.map (·.block) = some b → ¬ X b)
section
variable {w w' : World} {base g : Nat} {q : qf0} {D : qa3} {x : PA} {p : PV} {hash : Int} {k : KpV} {X : Nat → Prop}
theorem qg1.keepF {A : Option Addr} {n : Nat} {F : Nat → Prop} {l : List Int} (H : qg1 w base A n l) (k : Keep F w w') (hF : ∀ g, F g → base ≤ g ∧ ∀ cs, ¬ Blk w g 3 cs) : qg1 w' base A n l := by
  have hne : ∀ g, 0 < n → A.map (·.block) = some g → ¬ F g := fun g h0 hg e => by
    obtain ⟨q1, q2⟩ := hF g e; rcases H.2.2 h0 g hg with q | ⟨cs, q⟩
    · omega
    · exact q2 cs q
  refine ⟨⟨H.1.1, fun h0 => (H.1.2.sameB k.size (fun b hb hlt => k.block b hlt (hne b h0 hb))) h0⟩, H.2.1, fun h0 g hg' => ?_⟩; rcases H.2.2 h0 g hg' with q | ⟨cs, q⟩
  · exact .inl q
  · exact .inr ⟨cs, q.keep k (hne g h0 hg')⟩
theorem qz8 {t : TypeId} {cs : List Value} {g : Nat} (hb : Blk w g t cs) (ht : t ≠ 3) : ∀ cs', ¬ Blk w g 3 cs' := fun cs' h => h.ne_ hb (fun e => ht e.symm) rfl
theorem vh2 {cs : List Value} (hb : Blk w g 61 cs) (u7 u8 u9 u10 : Value) :
    Keep (· = g) w ((((w.setCell ⟨g, 7, none⟩ u7).setCell ⟨g, 8, none⟩ u8).setCell ⟨g, 9, none⟩ u9).setCell ⟨g, 10, none⟩ u10) ∧
    Blk ((((w.setCell ⟨g, 7, none⟩ u7).setCell ⟨g, 8, none⟩ u8).setCell ⟨g, 9, none⟩ u9).setCell ⟨g, 10, none⟩ u10) g 61 ((((cs.set 7 u7).set 8 u8).set 9 u9).set 10 u10) := by
  have one : ∀ {W : World} (i : Nat) (u : Value), Keep (· = g) W (W.setCell ⟨g, i, none⟩ u) := fun i u => Keep.one (qb1 _)
  exact ⟨(((one 7 u7).trans (one 8 u8) (fun _ _ e => e)).trans (one 9 u9) (fun _ _ e => e)).trans (one 10 u10) (fun _ _ e => e), (((hb.set_ 7 u7).set_ 8 u8).set_ 9 u9).set_ 10 u10⟩
theorem vh3 {cs : List Value} (hb : Blk w g 61 cs) (hg : base ≤ g) (kk : Keep (· = g) w w') (hd : qb5 w base q D) : qb5 w' base q D :=
  hd.apart kk (fun g' e => by
    subst e; obtain ⟨_, ⟨c1, b1⟩, _⟩ := hd.kinds; exact ⟨hg, hb.ne_ b1 dcd, _, _, hb, by decide⟩)
theorem qe5.keepG {t : TypeId} {cs : List Value} {g2 fl ml fr mr : Nat} {s : SlV3} (h : qe5 w base g2 q fl ml fr mr s) (hb : Blk w g t cs) (h1 : t ≠ 142) (h8 : t ≠ 5) (hg : base ≤ g) (kk : Keep (· = g) w w') : qe5 w' base g2 q fl ml fr mr s := by
  obtain ⟨B, n, c, x1, x2, x3, x4, x5⟩ := h; exact ⟨B, n, c, x1.keep kk (x1.ne_ hb (fun e => h1 e.symm)), x2, x3, x4.keepF kk (fun b e => by subst e; exact ⟨hg, ql2 hb h8⟩), x5⟩
theorem qj9.below (h : qj9 X w base g q x p hash k) (hb : Below w.heap.size w w') : qj9 X w' base g q x p hash k := by
  obtain ⟨gs, A, n, c, b1, b2, b3, b4, b5, b6, b7, b8⟩ := h; exact ⟨gs, A, n, c, b1.below hb b1.lt, b2, b3, b4.below hb, b5.below hb, b6, b7, b8⟩
def RKOPost (X : Nat → Prop) (w : World) (base : Nat) (q : qf0) (x : PA) (p : PV) (hash : Int) (R : qa3 × KpV × Int) (e : Ending) (w' : World) : Prop :=
  ∃ P, e = .returned (.tuple #[.pointer P, .int .i64 R.2.2]) ∧ (R.2.2 ≠ 0 → P = none) ∧ (R.2.2 = 0 → ∃ g, P = some ⟨g, 0, none⟩ ∧ w.heap.size ≤ g ∧ qj9 X w' base g q x p hash R.2.1) ∧ qb5 w' base q R.1 ∧ qd4 base q w w'
theorem vh6 (h : qb5 w base q D) {g : Nat} {cs : List Value} (hb : Blk w g 3 cs) (k : qd4 base q w w') (hg : g ≠ q.go) : Blk w' g 3 cs := by
  obtain ⟨F, hF, tF⟩ := k.tch; obtain ⟨_, ⟨c1, b1⟩, ⟨c2, b2⟩, _⟩ := h.kinds; refine hb.keep hF (fun e => ?_); rcases tF g _ cs e hb with q1 | q1 | q1 | q1 | q1
  · exact absurd q1 dcd
  · exact absurd q1 dcd
  · exact hb.ne_ b1 dcd q1
  · exact hb.ne_ b2 dcd q1
  · exact hg q1
theorem qg1.rstepQ {A : Option Addr} {n : Nat} {l : List Int} (H : qg1 w base A n l) (hne : 0 < n → ∀ b, A.map (·.block) = some b → b ≠ q.go) (hd : qb5 w base q D) (k : qd4 base q w w') : qg1 w' base A n l := by
  refine ⟨⟨H.1.1, fun h0 => (H.1.2.sameB k.size (fun b e _ => ?_)) h0⟩, H.2.1, fun h0 b e => ?_⟩
  · rcases H.2.2 (by assumption) b e with r | ⟨cs, r⟩
    · exact k.bel.block b r
    · exact Eq.trans (vh6 hd r k (hne (by assumption) b e)) (Eq.symm r)
  · rcases H.2.2 h0 b e with r | ⟨cs, r⟩
    · exact .inl r
    · exact .inr ⟨cs, vh6 hd r k (hne h0 b e)⟩
theorem qj9.rstep (h : qj9 (· = q.go) w base g q x p hash k) (hd : qb5 w base q D) (t : qd4 base q w w') : qj9 (· = q.go) w' base g q x p hash k := by
  obtain ⟨gs, A, n, c, b1, b2, b3, b4, b5, b6, b7, b8⟩ := h; exact ⟨gs, A, n, c, hd.blk b1 t dcd, b2, b3, b4.rstep hd t, b5.rstepQ b8 hd t, b6, b7, b8⟩
theorem qf3.rstepK {gs ga gb : Nat} {s : SlV3} (h : qf3 w base gs ga gb s) (hd : qb5 w base q D) (t : qd4 base q w w') : qf3 w' base gs ga gb s := by
  obtain ⟨B, n, c, h1, h2, h3, h4, h5, h6⟩ := h; exact ⟨B, n, c, hd.blk h1 t dcd, h2, h3, h4.rstep hd t, h5, h6⟩
theorem qg5.rstep {ga gb : Nat} (h : qg5 (· = q.go) w base g ga gb x p hash k) (hd : qb5 w base q D) (t : qd4 base q w w') (hP : ql6 w' base x p) : qg5 (· = q.go) w' base g ga gb x p hash k := by
  obtain ⟨gs, A, n, c, b1, b2, b3, b4, b5, b6, b7, b8, b9⟩ := h; exact ⟨gs, A, n, c, hd.blk b1 t dcd, b2, b3, b4.rstepK hd t, b5.rstepQ (fun _ b e => b9 b e) hd t, b6, b7, hP, b9⟩
theorem qj9.step {M : List TypeId} {pd : qe3} {E : qa3} (h : qj9 X w base g q x p hash k) (d : qc4 w base pd E) (t : Step M base pd w w') (h1 : 61 ∉ 4 :: M) (h2 : 142 ∉ 4 :: M) (h3 : 5 ∉ 4 :: M) (h4 : 3 ∉ 4 :: M) : qj9 X w' base g q x p hash k := by
  obtain ⟨gs, A, n, c, b1, b2, b3, b4, b5, b6, b7, b8⟩ := h; obtain ⟨B, m, e, x1, x2, x3, x4, x5⟩ := b4; exact ⟨gs, A, n, c, d.blk b1 t.tch h1, b2, b3, ⟨B, m, e, d.blk x1 t.tch h2, x2, x3, x4.step d t h3, x5⟩, b5.step d t h4, b6, b7, b8⟩
end
end Go.Proofs.YtpmkpckldnnigaaGreat
