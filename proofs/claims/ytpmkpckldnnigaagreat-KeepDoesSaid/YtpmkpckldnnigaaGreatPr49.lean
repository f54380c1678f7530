/- Parts: KeepD, Few28, Do37. -/
import Derived.Test.YtpmkpckldnnigaaGreatPr02
import Derived.Test.YtpmkpckldnnigaaGreatPr46
import Derived.Test.YtpmkpckldnnigaaGreatPr44
import Derived.Test.YtpmkpckldnnigaaGreatPr47
import Derived.Test.YtpmkpckldnnigaaGreatPr48
import Derived.Test.YtpmkpckldnnigaaGreatPr06
import Derived.Test.YtpmkpckldnnigaaGreatPr03
import Derived.Test.YtpmkpckldnnigaaGreatPr04
set_option linter.unusedVariables false
set_option linter.unusedSimpArgs false
set_option maxRecDepth 100000
set_option maxHeartbeats 40000000
namespace Go.Proofs.YtpmkpckldnnigaaGreat
open Go.RowKit
theorem vi4 (x : PA) (p : PV) (w : World) (h : qc8 w x p) (hw : qs1 p) (hm : mayB p = true) :
    Calls Tryz.prog 18 #[.agg #[.slice x.A1 x.n1 x.c1, .slice x.A2 x.n2 x.c2, .int .i64 p.regs, .slice x.A3 x.n3 x.c3, .slice x.A4 x.n4 x.c4]] w fun e w' => e = .returned (.int .i64 (fnv (qi6 p) % 9223372036854775808 : Nat)) ∧ Below w.heap.size w w' := by
  have HP := hdd h; have hb := fun (W : World) (h : qc8 W x p) => refcbytes_any x p W h hw hm
  have hd := fun (A : Option Addr) (n c : Nat) (W : World) hl hn => refdbytes_any A n c (qi6 p) W hl hn
  generalize qi6 p = L at *; generalize fnv L % 9223372036854775808 = z at *; clear h hw hm; go_enter Tryz.func18, Tryz.ntmps18; go_wp2_with (first | ((go_at_call 69; (with_reducible refine (hb _ (HP.out.below ((Below.refl _ _).alloc nlr _) nlr)).mono ?_); rintro e w1 ⟨A1, N1, c1, rfl, own1, hb1⟩); have hcp := own1.cap; have hN : N1 ≤ maxLen := omg; have b01 : Below w.heap.size w w1 := qa0 (a := w) (B := w.heap.size) gwn hb1 szz) | ((go_at_call 68; (with_reducible refine (hd _ _ _ _ own1.rd.rb hN).mono ?_); rintro e w2 ⟨rfl, hb2⟩)) | fail "no arm"); go_ret; exact ⟨rfl, b01.trans (hb2.mono b01.size)⟩
section
variable {w0 W : World} {base ga gb : Nat} {p : qe3} {D : qa3} {x : PA} {M : List TypeId}
theorem A10.stepK {D' : qa3} {w' : World} (h : A10 w0 W base p ga gb D) (st : Step mutK base p W w') (hd : qc4 w' base p D') : A10 w0 w' base p ga gb D' := ⟨hd, h.sd.area h.a st.tch dcd, h.sd.area h.b st.tch dcd, h.bel.trans st.bel, h.bs⟩
theorem ve3 (O : A10 w0 W base p ga gb D) (hm : D.many = 12) (P : ql6 W base x qh0) (R : qa3 × KpV × Int) (hR : qm2 D 0 6 6 6 qh0 ql4 = R) (h0 : R.2.2 = 0) :
    Calls Tryz.prog 16 #[.pointer (some ⟨ga, 0, none⟩), .pointer (some ⟨gb, 0, none⟩), .agg #[.slice x.A1 x.n1 x.c1, .slice x.A2 x.n2 x.c2, .int .i64 qh0.regs, .slice x.A3 x.n3 x.c3, .slice x.A4 x.n4 x.c4]] W fun e w' =>
      ∃ g, e = .returned (.tuple #[.pointer (some ⟨g, 0, none⟩), .int .i64 0]) ∧ W.heap.size ≤ g ∧ vj1 w' base g ga gb x qh0 ql4 R.2.1 ∧ qc4 w' base p R.1 ∧ Step mutD base p W w' := by
  have h := kopen_any (X := fun _ => False) (fun _ _ h => h) (fl := 0) (ml := 6) (fr := 6) (mr := 6) P delay_wf delay_right O.sd O.size O.a O.b omg omg (by rw [hm]; omega) (by rw [hm]; omega); have hH : (((fnv (qi6 qh0) % 9223372036854775808 : Nat)) : Int) = ql4 := rfl; rw [hH, hR] at h; refine h.mono fun e w' hp => ?_
  obtain ⟨Q, e1, _, e3, e4, e5⟩ := hp; obtain ⟨g, rfl, q2, q3⟩ := e3 h0; rw [h0] at e1; exact ⟨g, e1, q2, q3, e4, e5⟩
theorem kdelay_save {g n c : Nat} {A : Option Addr} {k : KpV} {tick : Int} {cells : List Int} (O : A10 w0 W base p ga gb D) (hm : D.many = 12) (hK : vj1 W base g ga gb x qh0 ql4 k) (hc : qg1 W base A n cells) (hn : n ≤ 1000) (hnb : -9223372036854775808 ≤ k.s.number ∧ k.s.number ≤ 9223372036854775807) (hw : D.waits.length < 800000) :
    Calls Tryz.prog 11 #[.pointer (some ⟨g, 0, none⟩), .int .i64 tick, .slice A n c] W fun e w' => e = .returned (.int .i64 (qm1 D 0 6 6 6 qh0 ql4 k tick cells).2.2) ∧ qc4 w' base p (qm1 D 0 6 6 6 qh0 ql4 k tick cells).1 ∧ vj1 w' base g ga gb x qh0 ql4 (qm1 D 0 6 6 6 qh0 ql4 k tick cells).2.1 ∧ Step mutK base p W w' :=
  ksave_any (fun _ _ h => h) (fl := 0) (ml := 6) (fr := 6) (mr := 6) hK delay_may O.sd O.size O.a O.b omg omg (by rw [hm]; omega) (by rw [hm]; omega) hc hn hnb hw
end
theorem ints_top {W : World} {base g : Nat} {z : Int} (hg : g = W.heap.size) : qg1 (W.alloc (.cells #[.int .i64 z] 3)) base (some ⟨g, 0, none⟩) 1 [z] := by
  subst hg; have hb : Blk (W.alloc (.cells #[.int .i64 z] 3)) W.heap.size 3 [.int .i64 z] := Blk.top _ rfl rfl; exact ⟨(Rd.of_block (enc := iv) (l := [z]) hb rfl).ri, by decide, fun _ g hg => by
    simp only [Option.map_some, Option.some.injEq] at hg; subst hg; exact .inr ⟨_, hb⟩⟩
theorem k37_f : (K37a.2.2 = 0 ∧ K37a.1.many = 12 ∧ K37a.1.waits.length = 0 ∧ K37a.2.1.s.number = 0) ∧ (K37b.2.2 = 0 ∧ K37b.1.many = 12) ∧ K37c.2.2 = 0 ∧ K37c.2.1.last.tick = 5 ∧ K37c.2.1.last.hash = ql4 ∧ K37c.2.1.last.cells = [7] ∧ K37c.2.1.has = true := by decide +kernel
theorem sv_eq {a : SV} {t h : Int} {l : List Int} (h1 : a.tick = t) (h2 : a.hash = h) (h3 : a.cells = l) : a = ⟨t, h, l⟩ := by cases a; subst h1; subst h2; subst h3; rfl
theorem awake37 (w : World) : Calls Tryz.prog 9 #[] w fun e w' => e = .returned (.bool true) ∧ Below w.heap.size w w' := by
  have hmd : Calls Tryz.prog 14 #[.slice none 0 0] w (Made10 w D10a) := ve0 none 0 0 [] w ⟨rfl, Row.nil _ _ _⟩ omg omg (by show ((0 : Nat) : Int) ≤ 12; omega); obtain ⟨⟨kA, kA2, kA3, kA4⟩, ⟨b0, kB⟩, kC, kC1, kC2, kC3, kC4⟩ := k37_f; have eA : qm2 D10a 0 6 6 6 qh0 ql4 = K37a := rfl; have eB : qm1 K37a.1 0 6 6 6 qh0 ql4 K37a.2.1 5 [7] = K37b := rfl; have eC : qm2 K37b.1 0 6 6 6 qh0 ql4 = K37c := rfl; have hc : vb4 K37c.2.1 = ⟨5, ql4, [7]⟩ := by unfold vb4; rw [if_pos kC4]; exact sv_eq kC1 kC2 kC3
  have mD : D10a.many = 12 := rfl; have c1 := fun {W : World} {base ga gb : Nat} {p : qe3} {x : PA} (O : A10 w W base p ga gb D10a) (P : ql6 W base x qh0) => ve3 O mD P K37a eA kA
  have c2 := fun {W : World} {base ga gb g : Nat} {p : qe3} {x : PA} {A : Option Addr} (O : A10 w W base p ga gb K37a.1) (hK : vj1 W base g ga gb x qh0 ql4 K37a.2.1) (hc : qg1 W base A 1 [7]) =>
    (show Calls Tryz.prog 11 #[.pointer (some ⟨g, 0, none⟩), .int .i64 5, .slice A 1 1] W fun e w' => e = .returned (.int .i64 0) ∧ qc4 w' base p K37b.1 ∧ vj1 w' base g ga gb x qh0 ql4 K37b.2.1 ∧ Step mutK base p W w' from by
      have := kdelay_save (tick := 5) (c := 1) O kA2 hK hc omg (by rw [kA4]; omega) (by rw [kA3]; omega); rw [eB, b0] at this; exact this)
  have c3 := fun {W : World} {base ga gb : Nat} {p : qe3} {x : PA} (O : A10 w W base p ga gb K37b.1) (P : ql6 W base x qh0) => ve3 O kB P K37c eC kC
  have c4 := fun {W : World} {base ga gb g : Nat} {x : PA} (hK : vj1 W base g ga gb x qh0 ql4 K37c.2.1) =>
    (show Calls Tryz.prog 10 #[.pointer (some ⟨g, 0, none⟩)] W fun e w' => ∃ A n c, e = .returned (.tuple #[.agg #[.int .i64 5, .int .i64 ql4, .slice A n c], .bool true]) ∧ Ow iv w' W.heap.size 3 A n c [7] ∧ Below W.heap.size W w' from by
      have := qu5 hK (by rw [kC3]; show ([7] : List Int).length ≤ 100; simp); rw [hc, kC4] at this; exact this)
  have c5 := fun (x : PA) (W : World) (h : qc8 W x qh0) => (show Calls Tryz.prog 18 #[.agg #[.slice x.A1 x.n1 x.c1, .slice x.A2 x.n2 x.c2, .int .i64 qh0.regs, .slice x.A3 x.n3 x.c3, .slice x.A4 x.n4 x.c4]] W fun e w' => e = .returned (.int .i64 ql4) ∧ Below W.heap.size W w' from vi4 x qh0 W h delay_wf delay_may)
  have cD := fun (W : World) => delay_any W
  clear kA kA2 kA3 kA4 kB kC kC1 kC2 kC3 kC4 eA eB eC b0 hc mD; generalize K37c = R3 at *; generalize K37b = R2 at *; generalize K37a = R1 at *; generalize D10a = D0 at *; generalize ql4 = H at *; generalize qh0 = P at *; go_enter Tryz.func9, Tryz.ntmps9; go_upto_region 6 with (first | ((go_at_call 14; (with_reducible refine (hmd).mono ?_); rintro e w1 ⟨p, ga, gb, rfl, o1'⟩); have O1 := hdd o1'; clear o1') | ((go_at_call 37; (with_reducible refine (cD _).mono ?_); rintro e w2 ⟨x2, rfl, px2, bx2⟩); have O2 := hdd (O1.out.below bx2); have P2 := hdd (px2 w.heap.size); clear px2 bx2) | ((go_at_call 16; (with_reducible refine (c1 O2.out P2.out).mono ?_); rintro e w3 ⟨g3, rfl, hg3, k3, d3, t3⟩); have O3 := hdd (O2.out.step t3 d3); have K3 := hdd k3; clear k3 d3 t3) | ((go_at_call 11; (with_reducible refine (c2 (O3.out.below (w' := w3.alloc (.cells #[.int .i64 7] 3)) gwn) (K3.out.below gwn) (ints_top rfl)).mono ?_); rintro e w4 ⟨rfl, d4, k4, t4⟩); have O4 := hdd ((O3.out.below (w' := w3.alloc (.cells #[.int .i64 7] 3)) gwn).stepK t4 d4); clear d4 k4 t4) | ((go_at_call 37; (with_reducible refine (cD _).mono ?_); rintro e w5 ⟨x5, rfl, px5, bx5⟩); have O5 := hdd (O4.out.below bx5); have P5 := hdd (px5 w.heap.size); clear px5 bx5) | ((go_at_call 16; (with_reducible refine (c3 O5.out P5.out).mono ?_); rintro e w6 ⟨g6, rfl, hg6, k6, d6, t6⟩); have O6 := hdd (O5.out.step t6 d6); have K6 := hdd k6; clear k6 d6 t6) | ((go_at_call 10; (with_reducible refine (c4 K6.out).mono ?_); rintro e w7 ⟨A7, n7, c7, rfl, ow7, b7⟩); have O7 := hdd (O6.out.below b7); have OW7 := hdd ow7; clear ow7 b7) | fail "no arm"); have bV : Below w7.heap.size w7 (w7.alloc (.cells #[.int .i64 5, .int .i64 H, .slice A7 n7 c7] 32)) := (Below.refl _ _).alloc nlr _; have Y8 := hdd (show Blk (w7.alloc (.cells #[.int .i64 5, .int .i64 H, .slice A7 n7 c7] 32)) w7.heap.size 32 [.int .i64 5, .int .i64 H, .slice A7 n7 c7] from Blk.top _ rfl rfl); have OW8 := hdd (OW7.out.below bV nlr); have B8 := hdd (show Below w.heap.size w _ from O7.out.bel.trans (bV.mono O7.out.size)); have hcp := OW7.out.cap; have hI := fun (W : World) (g : Nat) (h1 : RI W A7 n7 [7]) (h2 : RI W (some ⟨g, 0, none⟩) 1 [7]) => (show Calls Tryz.prog 53 #[.slice A7 n7 c7, .slice (some ⟨g, 0, none⟩) 1 1] W fun e w' => e = .returned (.bool true) ∧ ∃ q, w' = W.drewN q from by
    have := ints_any A7 (some ⟨g, 0, none⟩) n7 1 c7 1 [7] [7] W h1 h2 omg; rw [decide_eq_true (rfl : ([7] : List Int) = [7])] at this; exact this)
  clear bV OW7 O7 O6 K6 O5 P5 O4 O3 K3 O2 P2 O1 c1 c2 c3 c4 hmd; generalize (w7.alloc (.cells #[.int .i64 5, .int .i64 H, .slice A7 n7 c7] 32)) = w8 at *; generalize w7.heap.size = gy at *; obtain ⟨y0, y1, y2⟩ := blk3 Y8.out; have ly := Y8.out.lt; go_region_held3 (fun w' => w'.cell? ⟨gy, 0, none⟩ = some (.int .i64 5) ∧ w'.cell? ⟨gy, 2, none⟩ = some (.slice A7 n7 c7) ∧ w'.cell? ⟨gy, 1, none⟩ = some (.int .i64 H)) (first | go_keep | (refine ⟨?_, ?_, ?_⟩ <;> assumption)) (first | ((go_at_call 53; (with_reducible refine (hI _ _ (OW8.out.below (b := w8.heap.size) gwn nlr).rd.ri (Rd.of_block (enc := iv) (l := [7]) (qb7 _ _ smp) rfl).ri).mono ?_); rintro e w9 ⟨rfl, q9, rfl⟩)) | ((go_at_call 37; (with_reducible refine (cD _).mono ?_); rintro e w10 ⟨x10, rfl, px10, bx10⟩); have b810 : Below w8.heap.size w8 w10 := qa0 (a := w8) (B := w8.heap.size) gwn bx10 szz; have Y10 := hdd (Y8.out.below b810 ly); obtain ⟨z0, z1, z2⟩ := blk3 Y10.out; have P10 := hdd (px10 0); have B10 := hdd (B8.out.trans (b810.mono B8.out.size)); have ly10 := Y10.out.lt) | ((go_at_call 18; (with_reducible refine (c5 x10 _ P10.out.rd).mono ?_); rintro e w11 ⟨rfl, bx11⟩); have Y11 := hdd (Y10.out.below bx11 ly10); obtain ⟨u0, u1, u2⟩ := blk3 Y11.out; have B11 := hdd (B10.out.trans (bx11.mono B10.out.size))) | fail "no arm"); go_wp2; go_ret; exact ⟨rfl, B11.out⟩
def few28 (x : PA) : Prop := x.n1 ≤ 20 ∧ x.n2 ≤ 20 ∧ x.n3 ≤ 80 ∧ x.n4 ≤ 60
theorem few28_yes (x : PA) (r : Int) (w : World) (hf : few28 x) : Calls Tryz.prog 13 #[.agg #[.slice x.A1 x.n1 x.c1, .slice x.A2 x.n2 x.c2, .int .i64 r, .slice x.A3 x.n3 x.c3, .slice x.A4 x.n4 x.c4]] w fun e w' => e = .returned (.bool true) ∧ Below w.heap.size w w' := by
  obtain ⟨h1, h2, h3, h4⟩ := hf; go_enter Tryz.func13, Tryz.ntmps13; go_wp2; go_ret; exact ⟨qb9 (by first | rfl | (simp; done) | (simp; omega)), gwn⟩
theorem few28_no (x : PA) (p : PV) (w : World) (hr : qc8 w x p) (hf : ¬ few28 x) : Calls Tryz.prog 13 #[.agg #[.slice x.A1 x.n1 x.c1, .slice x.A2 x.n2 x.c2, .int .i64 p.regs, .slice x.A3 x.n3 x.c3, .slice x.A4 x.n4 x.c4]] w fun e w' => e = .returned (.bool false) ∧ Below w.heap.size w w' := by
  obtain ⟨_, _, _, _, k1, k2, k3, k4⟩ := hr; unfold maxLen at k1 k2 k3 k4; unfold few28 at hf
  by_cases h1 : x.n1 ≤ 20
  · by_cases h2 : x.n2 ≤ 20
    · by_cases h3 : x.n3 ≤ 80
      · have h4 : ¬ x.n4 ≤ 60 := fun h => hf ⟨h1, h2, h3, h⟩
        clear hf; go_enter Tryz.func13, Tryz.ntmps13; go_wp2; go_ret; exact ⟨qb9 (by first | rfl | (simp; done) | (simp; omega)), gwn⟩
      · clear hf; go_enter Tryz.func13, Tryz.ntmps13; go_wp2; go_ret; exact ⟨qb9 (by first | rfl | (simp; done) | (simp; omega)), gwn⟩
    · clear hf; go_enter Tryz.func13, Tryz.ntmps13; go_wp2; go_ret; exact ⟨qb9 (by first | rfl | (simp; done) | (simp; omega)), gwn⟩
  · clear hf; go_enter Tryz.func13, Tryz.ntmps13; go_wp2; go_ret; exact ⟨qb9 (by first | rfl | (simp; done) | (simp; omega)), gwn⟩
open Go.RowKit Go.WideShapes Go.ChangeShapes Go.Deep Go.Joins
def qq1 (l : List DoW) : Bool := l.all (fun x => decide (x.b.length ≤ 200) && decide (x.l.length ≤ 100)) && decide (l.length ≤ 20)
theorem ve7 {l : List DoW} (h : qq1 l = true) : l.length ≤ 20 ∧ ∀ x ∈ l, x.b.length ≤ 200 ∧ x.l.length ≤ 100 := by
  unfold qq1 at h; rw [Bool.and_eq_true, List.all_eq_true, decide_eq_true_eq] at h; refine ⟨h.2, fun x hx => ?_⟩; have := h.1 x hx; rw [Bool.and_eq_true, decide_eq_true_eq, decide_eq_true_eq] at this; exact this
theorem few37B_no {l : List DoW} {k : Nat} {x : DoW} (hx : l[k]? = some x) (h : 200 < x.b.length ∨ 100 < x.l.length) : qq1 l = false := by
  cases hq : qq1 l with
  | false => rfl
  | true => have := (ve7 hq).2 x (List.mem_of_getElem? hx); omega
theorem few37B_all {l : List DoW} (h : ∀ (k : Nat) (x : DoW), l[k]? = some x → x.b.length ≤ 200 ∧ x.l.length ≤ 100) : qq1 l = decide (l.length ≤ 20) := by
  unfold qq1; rw [show l.all (fun x => decide (x.b.length ≤ 200) && decide (x.l.length ≤ 100)) = true from by
    rw [List.all_eq_true]; intro x hx; obtain ⟨k, hk⟩ := List.getElem?_of_mem hx; rw [Bool.and_eq_true, decide_eq_true_eq, decide_eq_true_eq]; exact h k x hk, Bool.true_and]
section
variable {H : Type} {enc : TypeId × Value → H} {w : World} {base b0 : Nat} {held : Bool} {r : Reach} {v : Value} {d : DataW H} {ps : List MemPlace}
theorem args_dos37 (hval : Value.okWide Tryz.prog w r b0 28 v) (hd : DataW.Trod enc Tryz.prog w base (fun _ => true) held 28 v d ps) :
    ∃ A n c l, v = .slice A n c ∧ DosW w A n l ∧ n ≤ c ∧ c ≤ maxLen := by
  obtain ⟨A, n, c, rfl, hn, hc, hat⟩ := open_structs (k := 4) Tryz.underlying28 Tryz.underlying55 (by kernel_rfl) (by kernel_rfl) rfl omg hval hd; have hx : ∀ i, i < n → ∃ x : DoW, ∃ b o C q e B m c, A = some ⟨b, o, none⟩ ∧ b < w.heap.size ∧ w.cell? ⟨b, o + i * 4 + 0, none⟩ = some (.int .i64 x.kind) ∧ w.cell? ⟨b, o + i * 4 + 1, none⟩ = some (.int .i64 x.n) ∧ w.cell? ⟨b, o + i * 4 + 2, none⟩ = some (.slice C q e) ∧ w.cell? ⟨b, o + i * 4 + 3, none⟩ = some (.slice B m c) ∧
      RI w C q x.l ∧ q ≤ e ∧ e ≤ maxLen ∧ RB w B m x.b ∧ m ≤ c ∧ c ≤ maxLen ∧ (-9223372036854775808 ≤ x.kind ∧ x.kind ≤ 9223372036854775807) ∧ (-9223372036854775808 ≤ x.n ∧ x.n ≤ 9223372036854775807) ∧ IntOk x.l := by
    intro i hi; obtain ⟨b, o, vs, hA, hb, hl, hcell, fuel, hf⟩ := hat i hi; obtain ⟨u0, y0, e0, t0⟩ := hf 0 _ rfl; obtain ⟨u1, y1, e1, t1⟩ := hf 1 _ rfl; obtain ⟨u2, y2, e2, t2⟩ := hf 2 _ rfl; obtain ⟨u3, y3, e3, t3⟩ := hf 3 _ rfl; obtain ⟨z0, hz0, _, hw0⟩ := DataW.trod_int Tryz.underlying3 t0; obtain ⟨z1, hz1, _, hw1⟩ := DataW.trod_int Tryz.underlying3 t1; have hz0 : u0 = .int .i64 z0 := by simpa using hz0
    have hz1 : u1 = .int .i64 z1 := by simpa using hz1
    subst hz0 hz1; obtain ⟨C, q, c2, li, rfl, r2, k2, m2, hin⟩ := vc8 Tryz.underlying23 Tryz.underlying3 (by kernel_rfl) t2; obtain ⟨B, m, c', l, rfl, r1, k1, m1⟩ := trod_bytes Tryz.underlying22 Tryz.underlying5 (by kernel_rfl) t3; exact ⟨⟨z0, z1, li, l⟩, b, o, C, q, c2, B, m, c', hA, hb, (hcell 0 omg).trans e0, (hcell 1 omg).trans e1, (hcell 2 omg).trans e2, (hcell 3 omg).trans e3, r2, k2, m2, r1, k1, m1, bounds_i64 hw0, bounds_i64 hw1, intOk_of hin⟩
  obtain ⟨l, hl, hp⟩ := list_of hx; exact ⟨A, n, c, l, rfl, ⟨hl, hp⟩, hn, hc⟩
end
theorem ve6 (A : Option Addr) (n c : Nat) (l : List DoW) (w : World) (hl : DosW w A n l) (hn : n ≤ maxLen) :
    Calls Tryz.prog 12 #[.slice A n c] w fun e w' => e = .returned (.bool (qq1 l)) ∧ Below w.heap.size w w' := by
  have hlen := hdd hl.1; unfold maxLen at hn; go_enter Tryz.func12, Tryz.ntmps12; go_wp2; go_loopw [4, 7] (fun _ i wr => ∃ k : Nat, k ≤ n ∧ i = .int .i64 (k : Nat) ∧ (∀ (j : Nat) (x : DoW), j < k → l[j]? = some x → x.b.length ≤ 200 ∧ x.l.length ≤ 100) ∧ Below w.heap.size w wr) (fun _ i _ => n - (intOf i).toNat)
  case atStart => exact ⟨0, omg, rfl, fun j x hj => absurd hj omg, Below.refl _ _⟩
  case round =>
    obtain ⟨k, hk, rfl, hsm, hbel⟩ := hrel; have Hsm := hdd hsm; clear hsm
    by_cases hlt : k < n
    · have hkl : k < l.length := by rw [hlen.out]; exact hlt
      have hbs := hbel.size; obtain ⟨x, hx⟩ : ∃ x, l[k]? = some x := ⟨_, List.getElem?_eq_getElem hkl⟩; obtain ⟨b, o, C, q, e, B, m, d, rfl, hb, e0, e1, e2, e3, hi, hqe, he, hr, hmd, hd, _, _, _⟩ := (hl.below hbel nlr).2 k x hx; have hm : m ≤ 9223372036854775807 := by unfold maxLen at hd; omega
      have hq : q ≤ 9223372036854775807 := by unfold maxLen at he; omega
      have HX := hdd hx; have Hr := hdd hr.1; have Hi := hdd hi.1; simp only [Nat.add_zero] at e0; clear hx hr hd hi he
      by_cases hbig : 200 < m
      · have hno : Hid (qq1 l = false) := few37B_no HX.out (.inl (by rw [Hr.out]; exact hbig)); go_wp2; go_ret; exact ⟨qb9 hno.out.symm, gwn⟩
      · by_cases hbig2 : 100 < q
        · have hno : Hid (qq1 l = false) := few37B_no HX.out (.inr (by rw [Hi.out]; exact hbig2)); go_wp2; go_ret; exact ⟨qb9 hno.out.symm, gwn⟩
        · have hsm2 : Hid (∀ (j : Nat) (x : DoW), j < k + 1 → l[j]? = some x → x.b.length ≤ 200 ∧ x.l.length ≤ 100) := fun j x hj hx => by
            rcases Nat.lt_or_ge j k with q | q
            · exact Hsm.out j x q hx
            · have : j = k := omg; subst this; rw [HX.out] at hx; injection hx with hx; rw [← hx, Hr.out, Hi.out]; omega
          go_wp2; go_roundw
          case rel => exact ⟨k + 1, omg, by go_num, hsm2.out, gwn⟩
          case measure => simp [intOf]; omega
    · have hk9 : k = n := omg; subst hk9; have hall : Hid (qq1 l = decide (k ≤ 20)) := by
        show _ = _
        rw [few37B_all (fun j x hx => Hsm.out j x (by rw [← hlen.out]; exact (List.getElem?_eq_some_iff.1 hx).1) hx), hlen.out]
      go_wp2; go_ret; exact ⟨qb9 (by rw [hall.out]; first | rfl | (simp; done) | (simp; omega)), gwn⟩
end Go.Proofs.YtpmkpckldnnigaaGreat
