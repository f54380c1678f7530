/- Parts: RAreaA. -/
import Derived.Test.YtpmkpckldnnigaaGreatPr02
import Derived.Test.YtpmkpckldnnigaaGreatPr31
import Derived.Test.YtpmkpckldnnigaaGreatPr32
set_option linter.unusedVariables false
set_option linter.unusedSimpArgs false
set_option maxRecDepth 100000
set_option maxHeartbeats 40000000
namespace Go.Proofs.YtpmkpckldnnigaaGreat
open Go.RowKit
section
variable {w w' : World} {base f m : Nat} {q : qf0} {D : qa3}
theorem aRead_in {n : Int} (h0 : 0 ≤ n) (h1 : n < m) : qe1 D f m n = qn3 D ((f : Int) + n) := by unfold qe1; rw [if_neg omg]
theorem aRead_out {n : Int} (h : n < 0 ∨ (m : Int) ≤ n) : qe1 D f m n = (D, qa5, 51) := by unfold qe1; rw [if_pos h]
def RRead (w : World) (base : Nat) (q : qf0) (R : qa3 × List UInt8 × Int) (e : Ending) (w' : World) : Prop :=
  ∃ B k c, e = .returned (.tuple #[.slice B k c, .int .i64 R.2.2]) ∧ (R.2.2 ≠ 0 → B = none ∧ k = 0 ∧ c = 0) ∧ (R.2.2 = 0 → k = 128 ∧ 128 ≤ c ∧ c ≤ maxLen ∧ qb8 w' base ⟨B, 128, c⟩ R.2.1) ∧ qb5 w' base q R.1 ∧ qd4 base q w w'
theorem ra_read (h : qb5 w base q D) (hs : base ≤ w.heap.size) (hfm : f + m ≤ D.many) (n : Int) : Calls Tryz.prog 173 #[.agg #[.pointer (some ⟨q.d, 0, none⟩), .int .i64 (f : Nat), .int .i64 (m : Nat)], .int .i64 n] w (RRead w base q (qe1 D f m n)) := by
  have hm1 : D.many ≤ 4096 := by obtain ⟨A, c, ck, ci, hr⟩ := h; exact hr.ok.many1
  have bA : Below w.heap.size w (w.alloc (.cells #[.pointer (some ⟨q.d, 0, none⟩), .int .i64 (f : Nat), .int .i64 (m : Nat)] 50)) := (Below.refl _ _).alloc nlr _; have h1 := h.below bA; have sA : base ≤ (w.alloc (.cells #[.pointer (some ⟨q.d, 0, none⟩), .int .i64 (f : Nat), .int .i64 (m : Nat)] 50)).heap.size := by have := bA.size; omega
  have kA := qd4.of_below (q := q) bA hs; have KA := hdd kA; have H1 := hdd h1
  by_cases hr : n < 0 ∨ (m : Int) ≤ n
  · rw [aRead_out hr]; have hc : n < 0 ∨ (0 ≤ n ∧ (m : Int) ≤ n) := omg; clear h h1 kA bA hr; rcases hc with h1 | ⟨h1, h2⟩
    all_goals
      go_enter Tryz.func173, Tryz.ntmps173; go_wp2; go_ret2; exact ⟨none, 0, 0, rfl, fun _ => ⟨rfl, rfl, rfl⟩, fun e => absurd e smp, H1.out, KA.out⟩
  · have hn0 : 0 ≤ n := omg; have hn1 : n < m := omg; rw [aRead_in hn0 hn1]; have hsum : 0 ≤ (f : Int) + n := omg; have hsum2 : (f : Int) + n ≤ 4096 := omg
    by_cases hm : mayV D ((f : Int) + n) = 0
    · have hrv : qn3 D ((f : Int) + n) = (qt1 D, qc7 D.now ((f : Int) + n), 0) := by unfold qn3; rw [if_neg omg]
      have c1 := r_read_yes h1 sA ((f : Int) + n) hm; rw [hrv]; clear h h1 kA bA hr hm hrv; go_enter Tryz.func173, Tryz.ntmps173; go_wp2_with (first | (go_at_call 232; (with_reducible refine (c1).mono ?_); rintro e w2 ⟨ya, yc, rfl, hy1, hy2, hy3, r2, k2⟩) | fail "no arm"); go_ret2; exact ⟨ya, 128, yc, rfl, fun e => absurd rfl e, fun _ => ⟨rfl, hy1, hy2, hy3⟩, r2, KA.out.trans k2⟩
    · have hrv : qn3 D ((f : Int) + n) = (D, qa5, mayV D ((f : Int) + n)) := by unfold qn3; rw [if_pos hm]
      have c1 := r_read_no h1 sA ((f : Int) + n) hm; rw [hrv]; have HM := hdd hm; clear h h1 kA bA hr hm hrv; generalize mayV D ((f : Int) + n) = z at *; go_enter Tryz.func173, Tryz.ntmps173; go_wp2_with (first | (go_at_call 232; (with_reducible refine (c1).mono ?_); rintro e w2 ⟨rfl, r2, k2⟩) | fail "no arm"); go_ret2; exact ⟨none, 0, 0, rfl, fun _ => ⟨rfl, rfl, rfl⟩, fun e => absurd e HM.out, r2, KA.out.trans k2⟩
theorem vb9 (h : qb5 w base q D) (hs : base ≤ w.heap.size) (hfm : f + m ≤ D.many) (n : Int) (B : Option Addr) (d : Nat) (b : List UInt8) (hb : b.length = 128) (hr : RB w B 128 b) (hw : D.waits.length < 1000000) :
    Calls Tryz.prog 154 #[.agg #[.pointer (some ⟨q.d, 0, none⟩), .int .i64 (f : Nat), .int .i64 (m : Nat)], .int .i64 n, .slice B 128 d] w fun e w' => e = .returned (.int .i64 (qb0 D f m n b).2) ∧ qb5 w' base q (qb0 D f m n b).1 ∧ qd4 base q w w' := by
  have hm1 : D.many ≤ 4096 := by obtain ⟨A, c, ck, ci, hr⟩ := h; exact hr.ok.many1
  have bA : Below w.heap.size w (w.alloc (.cells #[.pointer (some ⟨q.d, 0, none⟩), .int .i64 (f : Nat), .int .i64 (m : Nat)] 50)) := (Below.refl _ _).alloc nlr _; have h1 := h.below bA; have sA : base ≤ (w.alloc (.cells #[.pointer (some ⟨q.d, 0, none⟩), .int .i64 (f : Nat), .int .i64 (m : Nat)] 50)).heap.size := by have := bA.size; omega
  have kA := qd4.of_below (q := q) bA hs; have KA := hdd kA; have H1 := hdd h1; unfold qb0
  by_cases hn : n < 0 ∨ (m : Int) ≤ n
  · rw [if_pos hn]; have hc : n < 0 ∨ (0 ≤ n ∧ (m : Int) ≤ n) := omg; clear h h1 kA bA hn hr; rcases hc with h1 | ⟨h1, h2⟩
    all_goals
      go_enter Tryz.func154, Tryz.ntmps154; go_wp2; go_ret; exact ⟨rfl, H1.out, KA.out⟩
  · rw [if_neg hn]; have hn0 : 0 ≤ n := omg; have hn1 : n < m := omg; have hsum : 0 ≤ (f : Int) + n := omg; have hsum2 : (f : Int) + n ≤ 4096 := omg; have c1 := r_write h1 sA ((f : Int) + n) B d b hb (hr.below bA nlr) hw; generalize qm8 D ((f : Int) + n) b = R at *; obtain ⟨D', z⟩ := R; clear h h1 kA bA hn hr; go_enter Tryz.func154, Tryz.ntmps154; go_wp2_with (first | (go_at_call 215; (with_reducible refine (c1).mono ?_); rintro e w2 ⟨rfl, r2, k2⟩) | fail "no arm"); go_ret; exact ⟨rfl, r2, KA.out.trans k2⟩
theorem ra_put (h : qb5 w base q D) (hs : base ≤ w.heap.size) (hfm : f + m ≤ D.many) (n kind number : Int) (B : Option Addr) (k d : Nat) (l : List UInt8) (hl : RB w B k l) (hk : k ≤ maxLen) (hnum : number ≤ 9223372036854775807) (hw : D.waits.length < 1000000) :
    Calls Tryz.prog 156 #[.agg #[.pointer (some ⟨q.d, 0, none⟩), .int .i64 (f : Nat), .int .i64 (m : Nat)], .int .i64 n, .int .i64 kind, .int .i64 number, .slice B k d] w fun e w' => e = .returned (.int .i64 (qm5 D f m n kind number l).2) ∧ qb5 w' base q (qm5 D f m n kind number l).1 ∧ qd4 base q w w' := by
  have bA : Below w.heap.size w (w.alloc (.cells #[.pointer (some ⟨q.d, 0, none⟩), .int .i64 (f : Nat), .int .i64 (m : Nat)] 50)) := (Below.refl _ _).alloc nlr _; have X1 := hdd (show Blk (w.alloc (.cells #[.pointer (some ⟨q.d, 0, none⟩), .int .i64 (f : Nat), .int .i64 (m : Nat)] 50)) w.heap.size 50 [.pointer (some ⟨q.d, 0, none⟩), .int .i64 (f : Nat), .int .i64 (m : Nat)] from Blk.top _ rfl rfl); have sA : base ≤ (w.alloc (.cells #[.pointer (some ⟨q.d, 0, none⟩), .int .i64 (f : Nat), .int .i64 (m : Nat)] 50)).heap.size := by have := bA.size; omega
  have KA := hdd (qd4.of_below (q := q) bA hs); have H1 := hdd (h.below bA); have cmk := refmake_any kind number B k d l _ hnum hk (hl.below bA nlr); have cwr := fun {w : World} (h : qb5 w base q D) (hs : base ≤ w.heap.size) (B : Option Addr) (d : Nat) (hr : RB w B 128 (qt5 kind number l).1) => vb9 h hs hfm n B d (qt5 kind number l).1 (makeL_len kind number l) hr hw
  unfold qm5; generalize qt5 kind number l = ML at *; obtain ⟨S, z⟩ := ML; simp only at cmk cwr
  by_cases hz : z = 0
  · subst hz; rw [if_neg smp]; generalize qb0 D f m n S = R at *; obtain ⟨D', er⟩ := R; clear h bA hl; go_enter Tryz.func156, Tryz.ntmps156; go_wp2_with (first | ((go_at_call 217; (with_reducible refine (cmk).mono ?_); rintro e w2 ⟨A2, ca2, rfl, o2, b2⟩); have H2 := hdd (H1.out.below b2); have K2 := hdd (KA.out.trans (qd4.of_below b2 sA)); have s2 := K2.out.size; have X2 := X1.out.below b2 X1.out.lt; have y0 : w2.cell? ⟨w.heap.size, 0, none⟩ = some (.pointer (some ⟨q.d, 0, none⟩)) := X2.cell 0; have y1 : w2.cell? ⟨w.heap.size, 1, none⟩ = some (.int .i64 (f : Nat)) := X2.cell 1; have y2 : w2.cell? ⟨w.heap.size, 2, none⟩ = some (.int .i64 (m : Nat)) := X2.cell 2; have R2 := hdd o2.rd.rb; clear b2 o2 X2) | ((go_at_call 154; (with_reducible refine (cwr H2.out omg A2 ca2 R2.out).mono ?_); rintro e w3 ⟨rfl, r3, k3⟩)) | fail "no arm"); go_ret; exact ⟨rfl, r3, K2.out.trans k3⟩
  · rw [if_pos hz]; have hne : (z != 0) = true := by rw [bne_iff_ne]; exact hz
    clear h bA hl hz cwr; go_enter Tryz.func156, Tryz.ntmps156; go_wp2_with (first | ((go_at_call 217; (with_reducible refine (cmk).mono ?_); rintro e w2 ⟨A2, ca2, rfl, o2, b2⟩); have H2 := hdd (H1.out.below b2); have K2 := hdd (KA.out.trans (qd4.of_below b2 sA)); clear b2 o2) | fail "no arm"); go_ret; exact ⟨rfl, H2.out, K2.out⟩
def RTakeB (w : World) (base : Nat) (q : qf0) (T : Int × List UInt8 × Int) (D' : qa3) (e : Ending) (w' : World) : Prop :=
  ∃ B k c, e = .returned (.tuple #[.int .i64 T.1, .slice B k c, .int .i64 T.2.2]) ∧ RB w' B k T.2.1 ∧ (T.2.2 = 0 → k ≤ c ∧ c ≤ maxLen ∧ qb8 w' base ⟨B, k, c⟩ T.2.1) ∧ qb5 w' base q D' ∧ qd4 base q w w'
theorem ra_takeB (h : qb5 w base q D) (hs : base ≤ w.heap.size) (hfm : f + m ≤ D.many) (n kind : Int) :
    Calls Tryz.prog 172 #[.agg #[.pointer (some ⟨q.d, 0, none⟩), .int .i64 (f : Nat), .int .i64 (m : Nat)], .int .i64 n, .int .i64 kind] w (RTakeB w base q (qg3 D f m n kind) (qe1 D f m n).1) := by
  have bA : Below w.heap.size w (w.alloc (.cells #[.pointer (some ⟨q.d, 0, none⟩), .int .i64 (f : Nat), .int .i64 (m : Nat)] 50)) := (Below.refl _ _).alloc nlr _; have sA : base ≤ (w.alloc (.cells #[.pointer (some ⟨q.d, 0, none⟩), .int .i64 (f : Nat), .int .i64 (m : Nat)] 50)).heap.size := by have := bA.size; omega
  have KA := hdd (qd4.of_below (q := q) bA hs); have crd := ra_read (h.below bA) sA hfm n; unfold qg3; generalize qe1 D f m n = R at *; obtain ⟨D', S, z⟩ := R; simp only at crd ⊢
  by_cases hz : z = 0
  · subst hz; rw [if_neg smp]; have crd2 := crd.mono (fun e w' (hp : RRead _ base q (D', S, 0) e w') => (show ∃ g o c, e = .returned (.tuple #[.slice (some ⟨g, o, none⟩) 128 c, .int .i64 0]) ∧ 128 ≤ c ∧ c ≤ maxLen ∧ qb8 w' base ⟨some ⟨g, o, none⟩, 128, c⟩ S ∧ qb5 w' base q D' ∧ qd4 base q _ w' from by
      obtain ⟨B, k, c, e1, _, e3, e4, e5⟩ := hp; obtain ⟨rfl, q2, q3, q4⟩ := e3 rfl; obtain ⟨b9, o9, e9, _⟩ := q4.1.2 (by show 0 < 128; omega); simp only at e9; subst e9; exact ⟨b9, o9, c, e1, q2, q3, q4, e4, e5⟩))
    have cop := fun (w : World) (g o c : Nat) (hl : RB w (some ⟨g, o, none⟩) 128 S) (hc : 128 ≤ c) => refopen_anyB g o c S kind w hl hc
    have hop : Hid (vj9 S kind = if qs5 S kind then (sg (qd1 S), qe2 S, 0) else (0, [], 53)) := rfl; generalize vj9 S kind = OV at *
    cases ho : qs5 S kind with
    | true =>
      rw [ho] at cop; have hov : OV = (sg (qd1 S), qe2 S, 0) := by rw [hop.out, ho]; rfl
      subst hov; have cop2 := fun (w : World) (g o c : Nat) (hl : RB w (some ⟨g, o, none⟩) 128 S) (hc : 128 ≤ c) => (cop w g o c hl hc).mono (fun e w' hp => (show ∃ o' ca, e = .returned (.tuple #[.int .i64 (sg (qd1 S)), .slice (some ⟨g, o', none⟩) (qa2 S 9) ca, .int .i64 0]) ∧ RB w' (some ⟨g, o', none⟩) (qa2 S 9) (qe2 S) ∧ Below w.heap.size w w' ∧ qa2 S 9 ≤ ca ∧ ca ≤ c from by
        rcases hp with ⟨e1, _⟩ | ⟨_, o', ca, e1, e2, e3⟩
        · cases e1
        · exact ⟨o', ca, e1, e2, e3⟩))
      generalize sg (qd1 S) = N at *; generalize qe2 S = L at *; generalize qa2 S 9 = y9 at *; clear h bA crd cop ho; go_enter Tryz.func172, Tryz.ntmps172; go_wp2_with (first | ((go_at_call 173; (with_reducible refine (crd2).mono ?_); rintro e w2 ⟨g, o, c, rfl, hc, hcm, hba, r2, k2⟩); have hr2 : RB w2 (some ⟨g, o, none⟩) 128 S := hba.1; have HBA := hdd hba; have R2 := hdd r2; have K2 := hdd (KA.out.trans k2); have s2 := K2.out.size; clear r2 k2) | ((go_at_call 171; (with_reducible refine (cop2 w2 g o c hr2 hc).mono ?_); rintro e w3 ⟨o3, ca3, rfl, hr3, b3, y1, y2⟩)) | fail "no arm"); go_ret3; have ba3 := HBA.out.below b3; have hrs : qs0 w3 base 5 (some ⟨g, o, none⟩) := ba3.2.2 (by show 0 < 128; omega); exact ⟨_, y9, ca3, rfl, hr3, fun _ => ⟨y1, omg, hr3, (by show y9 ≤ maxLen; omega), fun _ => hrs⟩, R2.out.below b3, K2.out.trans (qd4.of_below b3 omg)⟩
    | false =>
      rw [ho] at cop; have hov : OV = (0, [], 53) := by rw [hop.out, ho]; rfl
      subst hov; have cop2 := fun (w : World) (g o c : Nat) (hl : RB w (some ⟨g, o, none⟩) 128 S) (hc : 128 ≤ c) => (cop w g o c hl hc).mono (fun e w' hp => (show e = .returned (.tuple #[.int .i64 0, .slice none 0 0, .int .i64 53]) ∧ Below w.heap.size w w' from by
        rcases hp with ⟨_, e1, e2⟩ | ⟨e1, _⟩
        · exact ⟨e1, e2⟩
        · cases e1))
      clear h bA crd cop ho; go_enter Tryz.func172, Tryz.ntmps172; go_wp2_with (first | ((go_at_call 173; (with_reducible refine (crd2).mono ?_); rintro e w2 ⟨g, o, c, rfl, hc, hcm, hba, r2, k2⟩); have hr2 : RB w2 (some ⟨g, o, none⟩) 128 S := hba.1; have HBA := hdd hba; have R2 := hdd r2; have K2 := hdd (KA.out.trans k2); have s2 := K2.out.size; clear r2 k2) | ((go_at_call 171; (with_reducible refine (cop2 w2 g o c hr2 hc).mono ?_); rintro e w3 ⟨rfl, b3⟩)) | fail "no arm"); go_ret3; exact ⟨none, 0, 0, rfl, ⟨rfl, Row.nil _ _ _⟩, fun e => absurd e smp, R2.out.below b3, K2.out.trans (qd4.of_below b3 omg)⟩
  · rw [if_pos hz]; have crd2 := crd.mono (fun e w' (hp : RRead _ base q (D', S, z) e w') => (show e = .returned (.tuple #[.slice none 0 0, .int .i64 z]) ∧ qb5 w' base q D' ∧ qd4 base q _ w' from by
      obtain ⟨B, k, c, e1, e2, _, e4, e5⟩ := hp; obtain ⟨rfl, rfl, rfl⟩ := e2 hz; exact ⟨e1, e4, e5⟩))
    have hne : (z != 0) = true := by rw [bne_iff_ne]; exact hz
    have HZ := hdd hz; clear h bA crd hz; go_enter Tryz.func172, Tryz.ntmps172; go_wp2_with (first | ((go_at_call 173; (with_reducible refine (crd2).mono ?_); rintro e w2 ⟨rfl, r2, k2⟩); have R2 := hdd r2; have K2 := hdd (KA.out.trans k2); clear r2 k2) | fail "no arm"); go_ret3; exact ⟨none, 0, 0, rfl, ⟨rfl, Row.nil _ _ _⟩, fun e => absurd e HZ.out, R2.out, K2.out⟩
end
section
variable {F : Nat → Prop} {w w' : World} {base : Nat} {q : qf0} {D D' : qa3}
theorem qb5.apart (r : qb5 w base q D) (k : Keep F w w') (hF : ∀ g, F g → base ≤ g ∧ g ≠ q.gk ∧ ∃ t cs, Blk w g t cs ∧ t ∉ [124, 156, 4, 3, 5]) : qb5 w' base q D := by
  obtain ⟨A, c, ck, ci, r⟩ := r; have no : ∀ {g : Nat} {t : TypeId} {cs : List Value}, Blk w g t cs → t ∈ [124, 156, 4, 3, 5] → ¬ F g := fun {g t cs} hb ht e => by
    obtain ⟨_, _, t', cs', hb', ht'⟩ := hF g e
    by_cases q1 : t = t'
    · subst q1; exact ht' ht
    · exact hb.ne_ hb' q1 rfl
  have hF8 : ∀ g, F g → base ≤ g ∧ ∀ cs, ¬ Blk w g 5 cs := fun g e => ⟨(hF g e).1, fun cs hb => no hb dcd e⟩
  refine ⟨A, c, ck, ci, r.ok, r.cons, r.ops, r.st.keep k (no r.st dcd), r.kept.keepF k hF8 (fun e => (hF _ e).2.1 rfl), ?_, r.wts.keepF k hF8 (fun g hg e => ?_), r.op.keep k (no r.op dcd), r.bd, r.bo⟩
  · obtain ⟨cs, hb⟩ := r.inu.blk (g := q.gi) rfl; refine ⟨r.inu.1, qe7 r.inu.2 k (fun g e e2 => ?_)⟩; have : q.gi = g := by simpa [Value.ownBlock] using e
    subst this; exact no hb dcd e2
  · obtain ⟨ps, ho, _⟩ := r.wts; rcases ho.2.2 with ⟨hv, _⟩ | ⟨g', cap, cur, hv, _, hh, _⟩
    · injection hv with hv; subst hv; cases hg
    · injection hv with hv; subst hv; simp only [Option.map_some, Option.some.injEq] at hg; subst hg; exact no (g := g') (t := 156) (cs := cur.toList) (by unfold Blk; rw [hh]) dcd e
theorem qd4.then_below {w1 w2 : World} (h : qd4 base q w w1) (hb : Below w.heap.size w1 w2) (hs : base ≤ w.heap.size) : qd4 base q w w2 := by
  obtain ⟨h1, F, hF, tF⟩ := h; exact ⟨h1.trans (hb.mono hs), F, ⟨hb.os.trans hF.os, hb.tape.trans hF.tape, hb.output.trans hF.output, Nat.le_trans hF.size hb.size, fun k hk hn => (hb.block k hk).trans (hF.block k hk hn)⟩, tF⟩
theorem qb8.rstep {h : SlV} {L : List UInt8} (H : qb8 w base h L) (hd : qb5 w base q D) (k : qd4 base q w w') : qb8 w' base h L := by
  have hh : 0 < h.n → ∀ b, h.a.map (·.block) = some b → b < w.heap.size → w'.heap[b]? = w.heap[b]? := fun h0 b hb _ => by
    rcases H.2.2 h0 b hb with q | ⟨cs, q⟩
    · exact k.bel.block b q
    · exact Eq.trans (hd.blk q k dcd) (Eq.symm q)
  refine ⟨⟨H.1.1, fun h0 => (H.1.2.sameB k.size (hh h0)) h0⟩, H.2.1, fun h0 g hg => ?_⟩; rcases H.2.2 h0 g hg with q | ⟨cs, q⟩
  · exact .inl q
  · exact .inr ⟨cs, hd.blk q k dcd⟩
end
end Go.Proofs.YtpmkpckldnnigaaGreat
