/- Parts: SinkC, DoW, Do36. -/
import Derived.Test.YtalmdccgpigppaaGreatPr47
import Derived.Test.YtalmdccgpigppaaGreatPr45
import Derived.Deep.DeepCutAuto
import Derived.Deep.CutBlock
import Derived.Test.YtalmdccgpigppaaGreatPr08
import Derived.Test.YtalmdccgpigppaaGreatPr36
namespace Go.Proofs.YtalmdccgpigppaaGreat
open Go.RowKit
set_option linter.unusedVariables false
set_option linter.unusedSimpArgs false
theorem JRowsAt.parts {t : TypeId} {w : World} {base g ga next : Nat} {kind : Int} {ts : List Int} (h : JRowsAt t w base g ga kind next ts) :
    ∃ gj A n c, Blk w g t [.pointer (some ⟨gj, 0, none⟩), .slice A n c] ∧ base ≤ gj ∧ JrnAt w gj ga kind next ∧ IntsAt w base A n ts ∧ w.cell? ⟨g, 0, none⟩ = some (.pointer (some ⟨gj, 0, none⟩)) ∧ w.cell? ⟨g, 1, none⟩ = some (.slice A n c) := by
  obtain ⟨gj, A, n, c, hb, hg, hj, hi⟩ := h
  exact ⟨gj, A, n, c, hb, hg, hj, hi, hb.cell 0, hb.cell 1⟩

theorem skput_nil (w : World) (n : Int) (B : Option Addr) (k d : Nat) : Calls Tryz.prog 7 #[.pointer none, .int .i64 n, .slice B k d] w fun e w' => e = .returned (.tuple #[.bool false, .int .i64 1]) ∧ w = w' := by
  go_enter Tryz.func7, Tryz.ntmps7
  go_wp2_with (first
    | (go_at_call 43; (with_reducible refine (skis_nil _).mono ?_); rintro e w1 ⟨rfl, rfl⟩)
    | fail "no arm")
  go_ret2
  exact ⟨rfl, rfl⟩
theorem sklen_nil (w : World) : Calls Tryz.prog 8 #[.pointer none] w fun e w' => e = .returned (.int .i64 0) ∧ w = w' := by
  go_enter Tryz.func8, Tryz.ntmps8
  go_wp2_with (first
    | (go_at_call 43; (with_reducible refine (skis_nil _).mono ?_); rintro e w1 ⟨rfl, rfl⟩)
    | fail "no arm")
  go_ret
  exact ⟨rfl, rfl⟩
theorem skflush_nil (w : World) : Calls Tryz.prog 9 #[.pointer none] w fun e w' => e = .returned (.int .i64 1) ∧ w = w' := by
  go_enter Tryz.func9, Tryz.ntmps9
  go_wp2_with (first
    | (go_at_call 43; (with_reducible refine (skis_nil _).mono ?_); rintro e w1 ⟨rfl, rfl⟩)
    | fail "no arm")
  go_ret
  exact ⟨rfl, rfl⟩
section
variable {w w' : World} {base g ga f m next : Nat} {kind : Int} {ts l : List Int} {p : DiskP} {D : DiskV}
theorem skflush_any (h : JRowsAt 107 w base g ga kind next ts) (hd : DiskS w base p D) (hs : base ≤ w.heap.size) (ha : AreaAt w ga p.d f m) :
    Calls Tryz.prog 9 #[.pointer (some ⟨g, 0, none⟩)] w fun e w' => e = .returned (.int .i64 (flushV D).2) ∧ DiskS w' base p (flushV D).1 ∧ Step mutD base p w w' := by
  have his := skis_yes h
  obtain ⟨gj, A, n, c, hb, hg, hj, hi2, c0, c1⟩ := h.parts
  have hfl := jflush_any hj hd hs ha
  clear hb hj hi2 hd ha h
  go_enter Tryz.func9, Tryz.ntmps9
  go_wp2_with (first
    | (go_at_call 43; (with_reducible refine (his).mono ?_); rintro e w1 ⟨rfl, rfl⟩)
    | (go_at_call 47; (with_reducible refine (hfl).mono ?_); rintro e w1 ⟨rfl, h1, st1⟩)
    | fail "no arm")
  go_ret
  exact ⟨rfl, h1, st1⟩
set_option maxRecDepth 100000 in
set_option maxHeartbeats 8000000 in
theorem skput_any (h : JRowsAt 107 w base g ga kind next ts) (hd : DiskS w base p D) (hs : base ≤ w.heap.size) (ha : AreaAt w ga p.d f m) (hfm : f + m ≤ D.many) (hm : m ≤ 4096) (hnm : next ≤ m) (hw : D.waits.length < 900000) (hr : rightB ts = true) (nn : Int) (B : Option Addr) (k d : Nat) (hl : RI w B k l) (hk : k ≤ maxLen) (hi : IntOk l) :
    Calls Tryz.prog 7 #[.pointer (some ⟨g, 0, none⟩), .int .i64 nn, .slice B k d] w fun e w' => e = .returned (.tuple #[.bool (sPutV D f m kind next ts nn l).2.2.1, .int .i64 (sPutV D f m kind next ts nn l).2.2.2]) ∧ DiskS w' base p (sPutV D f m kind next ts nn l).1 ∧ JRowsAt 107 w' base g ga kind (sPutV D f m kind next ts nn l).2.1 ts ∧ Step mutJ base p w w' := by
  have his := skis_yes h
  have HJR := Lib.hid h
  obtain ⟨gj, A, n, c, hb, hg, hj, hi2, c0, c1⟩ := h.parts
  have hlen := fun (W : World) (q : JrnAt W gj ga kind next) => jlen_any q
  have hput : sPutV D f m kind next ts nn l = if nn < 0 ∨ (next : Int) < nn then (D, next, false, 2)
    else if fitsB ts l = false then (D, next, false, 41)
    else if nn < (next : Int) then (D, next, false, 0)
    else if (jAddV D f m kind next (rowB ts l ts.length)).2.2.2 ≠ 0 then ((jAddV D f m kind next (rowB ts l ts.length)).1, (jAddV D f m kind next (rowB ts l ts.length)).2.1, false, (jAddV D f m kind next (rowB ts l ts.length)).2.2.2)
    else ((jAddV D f m kind next (rowB ts l ts.length)).1, (jAddV D f m kind next (rowB ts l ts.length)).2.1, true, 0) := rfl
  have HB := Lib.hid hb
  have HJ := Lib.hid hj
  have HI := Lib.hid hi2
  have HD := Lib.hid hd
  have HA := Lib.hid ha
  generalize sPutV D f m kind next ts nn l = S at *
  by_cases h0 : nn < 0
  · rw [if_pos (.inl h0)] at hput
    subst hput
    clear hb hj hi2 hd ha h hl hi hw
    go_enter Tryz.func7, Tryz.ntmps7
    go_wp2_with (first
      | (go_at_call 43; (with_reducible refine (his).mono ?_); rintro e w1 ⟨rfl, rfl⟩)
      | fail "no arm")
    go_ret2
    exact ⟨rfl, HD.out, HJR.out, Step.refl _ _ _ _⟩
  by_cases h1 : (next : Int) < nn
  · rw [if_pos (.inr h1)] at hput
    subst hput
    clear hb hj hi2 hd ha h hl hi hw
    go_enter Tryz.func7, Tryz.ntmps7
    go_wp2_with (first
      | (go_at_call 43; (with_reducible refine (his).mono ?_); rintro e w1 ⟨rfl, rfl⟩)
      | (go_at_call 44; (with_reducible refine (hlen _ HJ.out).mono ?_); rintro e w1 ⟨rfl, rfl⟩)
      | fail "no arm")
    go_ret2
    exact ⟨rfl, HD.out, HJR.out, Step.refl _ _ _ _⟩
  rw [if_neg (by omega)] at hput
  cases hf : fitsB ts l with
  | false =>
    rw [if_pos hf] at hput
    have hwr := write_row A B n k c d ts l w hi2.ri hl hi2.len hk hr hf
    subst hput
    clear hb hj hi2 hd ha h hl hi hw hf
    go_enter Tryz.func7, Tryz.ntmps7
    go_wp2_with (first
      | (go_at_call 43; (with_reducible refine (his).mono ?_); rintro e w1 ⟨rfl, rfl⟩)
      | (go_at_call 44; (with_reducible refine (hlen _ HJ.out).mono ?_); rintro e w1 ⟨rfl, rfl⟩)
      | (go_at_call 45; (with_reducible refine (hwr).mono ?_); rintro e w1 ⟨rfl, rfl⟩)
      | fail "no arm")
    go_ret2
    exact ⟨rfl, HD.out, HJR.out, Step.refl _ _ _ _⟩
  | true =>
    rw [if_neg (by rw [hf]; simp)] at hput
    have hwr := rowwrite_ok A B n k c d ts l w hi2.ri hl hi2.len hk hf hi
    by_cases h2 : nn < (next : Int)
    · rw [if_pos h2] at hput
      subst hput
      clear hb hj hi2 hd ha h hl hi hf hw
      go_enter Tryz.func7, Tryz.ntmps7
      go_wp2_with (first
        | (go_at_call 43; (with_reducible refine (his).mono ?_); rintro e w1 ⟨rfl, rfl⟩)
        | (go_at_call 44; (with_reducible refine (hlen _ HJ.out).mono ?_); rintro e w1 ⟨rfl, rfl⟩)
        | (go_at_call 44; (with_reducible refine (hlen _ J1.out).mono ?_); rintro e w2 ⟨rfl, rfl⟩)
        | ((go_at_call 45; (with_reducible refine (hwr).mono ?_); rintro e w1 ⟨C1, N1, d1, rfl, o1, b1⟩); have J1 := Lib.hid (HJ.out.below b1); have H1 := Lib.hid (HD.out.below b1); have A1 := Lib.hid (show AreaAt w1 ga p.d f m from Blk.below HA.out b1 (Blk.lt HA.out)); have B1 := Lib.hid (Blk.below HB.out b1 (Blk.lt HB.out)); have I1 := Lib.hid (HI.out.below b1); have O1 := Lib.hid o1; have s1 := b1.size; have cp1 := o1.cap; have ST1 := Lib.hid (Step.of_below (M := mutJ) (base := base) (p := p) b1 hs); have e1 : w1.cell? ⟨g, 0, none⟩ = some (.pointer (some ⟨gj, 0, none⟩)) := B1.out.cell 0; clear o1 b1)
        | fail "no arm")
      go_ret2
      exact ⟨rfl, H1.out, ⟨gj, A, n, c, B1.out, hg, J1.out, I1.out⟩, ST1.out⟩
    · rw [if_neg h2] at hput
      have hadd := fun (W : World) (C : Option Addr) (N e : Nat) (h1 : JrnAt W gj ga kind next) (h2 : DiskS W base p D) (h3 : base ≤ W.heap.size) (h4 : AreaAt W ga p.d f m) (h5 : RB W C N (rowB ts l ts.length)) (h6 : N ≤ maxLen) => jadd_any h1 h2 h3 hg h4 hfm hm hnm (by omega) C N e _ h5 h6
      generalize jAddV D f m kind next (rowB ts l ts.length) = R at *
      obtain ⟨D1, n1, v1, z1⟩ := R
      simp only at hput hadd
      clear hb hj hi2 hd ha h hl hi hf hw
      by_cases hz : z1 = 0
      · subst hz
        rw [if_neg (by simp)] at hput
        subst hput
        go_enter Tryz.func7, Tryz.ntmps7
        go_wp2_with (first
          | (go_at_call 43; (with_reducible refine (his).mono ?_); rintro e w1 ⟨rfl, rfl⟩)
          | (go_at_call 44; (with_reducible refine (hlen _ HJ.out).mono ?_); rintro e w1 ⟨rfl, rfl⟩)
          | (go_at_call 44; (with_reducible refine (hlen _ J1.out).mono ?_); rintro e w2 ⟨rfl, rfl⟩)
          | ((go_at_call 45; (with_reducible refine (hwr).mono ?_); rintro e w1 ⟨C1, N1, d1, rfl, o1, b1⟩); have J1 := Lib.hid (HJ.out.below b1); have H1 := Lib.hid (HD.out.below b1); have A1 := Lib.hid (show AreaAt w1 ga p.d f m from Blk.below HA.out b1 (Blk.lt HA.out)); have B1 := Lib.hid (Blk.below HB.out b1 (Blk.lt HB.out)); have I1 := Lib.hid (HI.out.below b1); have O1 := Lib.hid o1; have s1 := b1.size; have cp1 := o1.cap; have ST1 := Lib.hid (Step.of_below (M := mutJ) (base := base) (p := p) b1 hs); have e1 : w1.cell? ⟨g, 0, none⟩ = some (.pointer (some ⟨gj, 0, none⟩)) := B1.out.cell 0; clear o1 b1)
          | ((go_at_call 46; (with_reducible refine (hadd _ _ _ _ J1.out H1.out (by omega) A1.out O1.out.rd.rb (by omega)).mono ?_); rintro e w2 ⟨rfl, h2, j2, st2⟩); have H2 := Lib.hid h2; have J2 := Lib.hid j2; have B2 := Lib.hid (H1.out.blk B1.out st2.tch (by decide)); have A2 := Lib.hid (H1.out.area A1.out st2.tch (by decide)); have I2 := Lib.hid (I1.out.step H1.out st2 (by decide)); have ST2 := Lib.hid (ST1.out.trans st2); have s2 := st2.size; have R2 := Lib.hid (show JRowsAt 107 w2 base g ga kind n1 ts from ⟨gj, A, n, c, B2.out, hg, J2.out, I2.out⟩); have e2 : w2.cell? ⟨g, 0, none⟩ = some (.pointer (some ⟨gj, 0, none⟩)) := B2.out.cell 0; clear h2 j2 st2)
          | fail "no arm")
        go_ret2
        exact ⟨rfl, H2.out, R2.out, ST2.out⟩
      · have hzb : (z1 != 0) = true := by rw [bne_iff_ne]; exact hz
        rw [if_pos hz] at hput
        subst hput
        clear hz
        go_enter Tryz.func7, Tryz.ntmps7
        go_wp2_with (first
          | (go_at_call 43; (with_reducible refine (his).mono ?_); rintro e w1 ⟨rfl, rfl⟩)
          | (go_at_call 44; (with_reducible refine (hlen _ HJ.out).mono ?_); rintro e w1 ⟨rfl, rfl⟩)
          | (go_at_call 44; (with_reducible refine (hlen _ J1.out).mono ?_); rintro e w2 ⟨rfl, rfl⟩)
          | ((go_at_call 45; (with_reducible refine (hwr).mono ?_); rintro e w1 ⟨C1, N1, d1, rfl, o1, b1⟩); have J1 := Lib.hid (HJ.out.below b1); have H1 := Lib.hid (HD.out.below b1); have A1 := Lib.hid (show AreaAt w1 ga p.d f m from Blk.below HA.out b1 (Blk.lt HA.out)); have B1 := Lib.hid (Blk.below HB.out b1 (Blk.lt HB.out)); have I1 := Lib.hid (HI.out.below b1); have O1 := Lib.hid o1; have s1 := b1.size; have cp1 := o1.cap; have ST1 := Lib.hid (Step.of_below (M := mutJ) (base := base) (p := p) b1 hs); have e1 : w1.cell? ⟨g, 0, none⟩ = some (.pointer (some ⟨gj, 0, none⟩)) := B1.out.cell 0; clear o1 b1)
          | ((go_at_call 46; (with_reducible refine (hadd _ _ _ _ J1.out H1.out (by omega) A1.out O1.out.rd.rb (by omega)).mono ?_); rintro e w2 ⟨rfl, h2, j2, st2⟩); have H2 := Lib.hid h2; have J2 := Lib.hid j2; have B2 := Lib.hid (H1.out.blk B1.out st2.tch (by decide)); have A2 := Lib.hid (H1.out.area A1.out st2.tch (by decide)); have I2 := Lib.hid (I1.out.step H1.out st2 (by decide)); have ST2 := Lib.hid (ST1.out.trans st2); have s2 := st2.size; have R2 := Lib.hid (show JRowsAt 107 w2 base g ga kind n1 ts from ⟨gj, A, n, c, B2.out, hg, J2.out, I2.out⟩); have e2 : w2.cell? ⟨g, 0, none⟩ = some (.pointer (some ⟨gj, 0, none⟩)) := B2.out.cell 0; clear h2 j2 st2)
          | fail "no arm")
        go_ret2
        exact ⟨rfl, H2.out, R2.out, ST2.out⟩
end
end Go.Proofs.YtalmdccgpigppaaGreat
namespace Go.Proofs.YtalmdccgpigppaaGreat
open Go.RowKit Go.WideShapes Go.ChangeShapes Go.Deep Go.Joins
set_option linter.unusedVariables false
set_option linter.unusedSimpArgs false
/-- What is done to a feed or to a sink. -/
structure DoW where
  kind : Int
  n : Int
  l : List Int
  b : List UInt8
def doW (x : DoW) (C : Option Addr) (q e : Nat) (B : Option Addr) (m c : Nat) : List Value := [.int .i64 x.kind, .int .i64 x.n, .slice C q e, .slice B m c]
def DosW (w : World) (A : Option Addr) (n : Nat) (l : List DoW) : Prop :=
  l.length = n ∧ ∀ k x, l[k]? = some x → ∃ b o C q e B m c, A = some ⟨b, o, none⟩ ∧ b < w.heap.size ∧ w.cell? ⟨b, o + k * 4 + 0, none⟩ = some (.int .i64 x.kind) ∧ w.cell? ⟨b, o + k * 4 + 1, none⟩ = some (.int .i64 x.n) ∧ w.cell? ⟨b, o + k * 4 + 2, none⟩ = some (.slice C q e) ∧ w.cell? ⟨b, o + k * 4 + 3, none⟩ = some (.slice B m c) ∧
    RI w C q x.l ∧ q ≤ e ∧ e ≤ maxLen ∧ RB w B m x.b ∧ m ≤ c ∧ c ≤ maxLen ∧ (-9223372036854775808 ≤ x.kind ∧ x.kind ≤ 9223372036854775807) ∧ (-9223372036854775808 ≤ x.n ∧ x.n ≤ 9223372036854775807) ∧ IntOk x.l
theorem DosW.below {w w' : World} {A : Option Addr} {n B0 : Nat} {l : List DoW} (h : DosW w A n l) (hb : Below B0 w w') (hB : w.heap.size ≤ B0) : DosW w' A n l := by
  refine ⟨h.1, fun k x hx => ?_⟩
  obtain ⟨b, o, C, q, e, B, m, c, hA, hlt, c0, c1, c2, c3, hi, h1, h2, hr, rest⟩ := h.2 k x hx
  have hs := hb.size
  have hc : ∀ j, w'.cell? ⟨b, j, none⟩ = w.cell? ⟨b, j, none⟩ := fun j => hb.cell (p := ⟨b, j, none⟩) (by show b < B0; omega)
  exact ⟨b, o, C, q, e, B, m, c, hA, by omega, by rw [hc]; exact c0, by rw [hc]; exact c1, by rw [hc]; exact c2, by rw [hc]; exact c3, hi.below hb hB, h1, h2, hr.below hb hB, rest⟩
theorem DosW.get {w : World} {A : Option Addr} {n k : Nat} {l : List DoW} {x : DoW} (h : DosW w A n l) (hx : l[k]? = some x) :
    ∃ b o C q e B m d, A = some ⟨b, o, none⟩ ∧ RI w C q x.l ∧ q ≤ e ∧ e ≤ maxLen ∧ RB w B m x.b ∧ m ≤ d ∧ d ≤ maxLen ∧ (-9223372036854775808 ≤ x.n ∧ x.n ≤ 9223372036854775807) ∧ IntOk x.l ∧
      ∀ (w' : World) (B0 : Nat), Below B0 w w' → w.heap.size ≤ B0 → b < w'.heap.size ∧ w'.cell? ⟨b, o + k * 4, none⟩ = some (.int .i64 x.kind) ∧ w'.cell? ⟨b, o + k * 4 + 1, none⟩ = some (.int .i64 x.n) ∧ w'.cell? ⟨b, o + k * 4 + 2, none⟩ = some (.slice C q e) ∧ w'.cell? ⟨b, o + k * 4 + 3, none⟩ = some (.slice B m d) := by
  obtain ⟨b, o, C, q, e, B, m, c, hA, hlt, c0, c1, c2, c3, hi, h1, h2, hr, hm, hc, _, hn, ho⟩ := h.2 k x hx
  refine ⟨b, o, C, q, e, B, m, c, hA, hi, h1, h2, hr, hm, hc, hn, ho, fun w' B0 hb hB => ?_⟩
  have hs := hb.size
  have hcl : ∀ j, w'.cell? ⟨b, j, none⟩ = w.cell? ⟨b, j, none⟩ := fun j => hb.cell (p := ⟨b, j, none⟩) (by show b < B0; omega)
  exact ⟨by omega, by rw [hcl]; exact c0, by rw [hcl]; exact c1, by rw [hcl]; exact c2, by rw [hcl]; exact c3⟩
theorem intOk_of {l : List Int} (h : ∀ z ∈ l, -9223372036854775808 ≤ z ∧ z ≤ 9223372036854775807) : IntOk l := fun i hi => by
  unfold intAt
  rw [List.getD_eq_getElem?_getD, List.getElem?_eq_getElem hi]
  exact h _ (List.getElem_mem hi)
/-- What a law goes through with. -/
def fewWB (l : List DoW) : Bool := l.all (fun x => decide (x.b.length ≤ 200) && decide (x.l.length ≤ 20)) && decide (l.length ≤ 40)
theorem fewWB_true {l : List DoW} (h : fewWB l = true) : l.length ≤ 40 ∧ ∀ x ∈ l, x.b.length ≤ 200 ∧ x.l.length ≤ 20 := by
  unfold fewWB at h
  rw [Bool.and_eq_true, List.all_eq_true, decide_eq_true_eq] at h
  refine ⟨h.2, fun x hx => ?_⟩
  have := h.1 x hx
  rw [Bool.and_eq_true, decide_eq_true_eq, decide_eq_true_eq] at this
  exact this
theorem fewWB_no {l : List DoW} {k : Nat} {x : DoW} (hx : l[k]? = some x) (h : 200 < x.b.length ∨ 20 < x.l.length) : fewWB l = false := by
  cases hq : fewWB l with
  | false => rfl
  | true => have := (fewWB_true hq).2 x (List.mem_of_getElem? hx); omega
theorem fewWB_all {l : List DoW} (h : ∀ (k : Nat) (x : DoW), l[k]? = some x → x.b.length ≤ 200 ∧ x.l.length ≤ 20) : fewWB l = decide (l.length ≤ 40) := by
  unfold fewWB
  rw [show l.all (fun x => decide (x.b.length ≤ 200) && decide (x.l.length ≤ 20)) = true from by
    rw [List.all_eq_true]
    intro x hx
    obtain ⟨k, hk⟩ := List.getElem?_of_mem hx
    rw [Bool.and_eq_true, decide_eq_true_eq, decide_eq_true_eq]
    exact h k x hk, Bool.true_and]
end Go.Proofs.YtalmdccgpigppaaGreat
namespace Go.Proofs.YtalmdccgpigppaaGreat
open Go.RowKit Go.WideShapes Go.ChangeShapes Go.Deep Go.Joins
set_option linter.unusedVariables false
set_option linter.unusedSimpArgs false
section
variable {H : Type} {enc : TypeId × Value → H} {w : World} {base b0 : Nat} {held : Bool} {r : Reach} {v : Value} {d : DataW H} {ps : List MemPlace}
set_option maxRecDepth 100000 in
theorem args_dos36 (hval : Value.okWide Tryz.prog w r b0 24 v) (hd : DataW.Trod enc Tryz.prog w base (fun _ => true) held 24 v d ps) :
    ∃ A n c l, v = .slice A n c ∧ DosW w A n l ∧ n ≤ c ∧ c ≤ maxLen := by
  obtain ⟨A, n, c, rfl, hn, hc, hat⟩ := open_structs (k := 4) Tryz.underlying24 Tryz.underlying48 (by kernel_rfl) (by kernel_rfl) rfl (by omega) hval hd
  have hx : ∀ i, i < n → ∃ x : DoW, ∃ b o C q e B m c, A = some ⟨b, o, none⟩ ∧ b < w.heap.size ∧ w.cell? ⟨b, o + i * 4 + 0, none⟩ = some (.int .i64 x.kind) ∧ w.cell? ⟨b, o + i * 4 + 1, none⟩ = some (.int .i64 x.n) ∧ w.cell? ⟨b, o + i * 4 + 2, none⟩ = some (.slice C q e) ∧ w.cell? ⟨b, o + i * 4 + 3, none⟩ = some (.slice B m c) ∧
      RI w C q x.l ∧ q ≤ e ∧ e ≤ maxLen ∧ RB w B m x.b ∧ m ≤ c ∧ c ≤ maxLen ∧ (-9223372036854775808 ≤ x.kind ∧ x.kind ≤ 9223372036854775807) ∧ (-9223372036854775808 ≤ x.n ∧ x.n ≤ 9223372036854775807) ∧ IntOk x.l := by
    intro i hi
    obtain ⟨b, o, vs, hA, hb, hl, hcell, fuel, hf⟩ := hat i hi
    obtain ⟨u0, y0, e0, t0⟩ := hf 0 _ rfl
    obtain ⟨u1, y1, e1, t1⟩ := hf 1 _ rfl
    obtain ⟨u2, y2, e2, t2⟩ := hf 2 _ rfl
    obtain ⟨u3, y3, e3, t3⟩ := hf 3 _ rfl
    obtain ⟨z0, hz0, _, hw0⟩ := DataW.trod_int Tryz.underlying3 t0
    obtain ⟨z1, hz1, _, hw1⟩ := DataW.trod_int Tryz.underlying3 t1
    have hz0 : u0 = .int .i64 z0 := by simpa using hz0
    have hz1 : u1 = .int .i64 z1 := by simpa using hz1
    subst hz0 hz1
    obtain ⟨C, q, c2, li, rfl, r2, k2, m2, hin⟩ := trod_ints Tryz.underlying23 Tryz.underlying3 (by kernel_rfl) t2
    obtain ⟨B, m, c', l, rfl, r1, k1, m1⟩ := trod_bytes Tryz.underlying22 Tryz.underlying5 (by kernel_rfl) t3
    exact ⟨⟨z0, z1, li, l⟩, b, o, C, q, c2, B, m, c', hA, hb, (hcell 0 (by omega)).trans e0, (hcell 1 (by omega)).trans e1, (hcell 2 (by omega)).trans e2, (hcell 3 (by omega)).trans e3, r2, k2, m2, r1, k1, m1, bounds_i64 hw0, bounds_i64 hw1, intOk_of hin⟩
  obtain ⟨l, hl, hp⟩ := list_of hx
  exact ⟨A, n, c, l, rfl, ⟨hl, hp⟩, hn, hc⟩
end
set_option maxRecDepth 100000 in
set_option maxHeartbeats 4000000 in
theorem few36_any (A : Option Addr) (n c : Nat) (l : List DoW) (w : World) (hl : DosW w A n l) (hn : n ≤ maxLen) :
    Calls Tryz.prog 11 #[.slice A n c] w fun e w' => e = .returned (.bool (fewWB l)) ∧ Below w.heap.size w w' := by
  have hlen := Lib.hid hl.1
  unfold maxLen at hn
  go_enter Tryz.func11, Tryz.ntmps11
  go_wp2
  go_loopw [4, 7] (fun _ i wr => ∃ k : Nat, k ≤ n ∧ i = .int .i64 (k : Nat) ∧ (∀ (j : Nat) (x : DoW), j < k → l[j]? = some x → x.b.length ≤ 200 ∧ x.l.length ≤ 20) ∧ Below w.heap.size w wr) (fun _ i _ => n - (intOf i).toNat)
  case atStart => exact ⟨0, by omega, rfl, fun j x hj => absurd hj (by omega), Below.refl _ _⟩
  case round =>
    obtain ⟨k, hk, rfl, hsm, hbel⟩ := hrel
    have Hsm := Lib.hid hsm
    clear hsm
    by_cases hlt : k < n
    · have hkl : k < l.length := by rw [hlen.out]; exact hlt
      have hbs := hbel.size
      obtain ⟨x, hx⟩ : ∃ x, l[k]? = some x := ⟨_, List.getElem?_eq_getElem hkl⟩
      obtain ⟨b, o, C, q, e, B, m, d, rfl, hb, e0, e1, e2, e3, hi, hqe, he, hr, hmd, hd, _, _, _⟩ := (hl.below hbel (Nat.le_refl _)).2 k x hx
      have hm : m ≤ 9223372036854775807 := by unfold maxLen at hd; omega
      have hq : q ≤ 9223372036854775807 := by unfold maxLen at he; omega
      have HX := Lib.hid hx
      have Hr := Lib.hid hr.1
      have Hi := Lib.hid hi.1
      simp only [Nat.add_zero] at e0
      clear hx hr hd hi he
      by_cases hbig : 200 < m
      · have hno : Hid (fewWB l = false) := fewWB_no HX.out (.inl (by rw [Hr.out]; exact hbig))
        go_wp2
        go_ret
        exact ⟨ret_bool hno.out.symm, (by (repeat' (first | (with_reducible exact Below.refl _ _) | (with_reducible assumption) | (with_reducible refine Below.drew ?_) | (with_reducible refine below_drewN ?_ _) | (with_reducible refine Below.alloc ?_ ?_ _) | (with_reducible refine Below.setCell ?_ ?_ _) | omega | (simp; done) | (simp; omega))))⟩
      · by_cases hbig2 : 20 < q
        · have hno : Hid (fewWB l = false) := fewWB_no HX.out (.inr (by rw [Hi.out]; exact hbig2))
          go_wp2
          go_ret
          exact ⟨ret_bool hno.out.symm, (by (repeat' (first | (with_reducible exact Below.refl _ _) | (with_reducible assumption) | (with_reducible refine Below.drew ?_) | (with_reducible refine below_drewN ?_ _) | (with_reducible refine Below.alloc ?_ ?_ _) | (with_reducible refine Below.setCell ?_ ?_ _) | omega | (simp; done) | (simp; omega))))⟩
        · have hsm2 : Hid (∀ (j : Nat) (x : DoW), j < k + 1 → l[j]? = some x → x.b.length ≤ 200 ∧ x.l.length ≤ 20) := fun j x hj hx => by
            rcases Nat.lt_or_ge j k with q | q
            · exact Hsm.out j x q hx
            · have : j = k := by omega
              subst this
              rw [HX.out] at hx
              injection hx with hx
              rw [← hx, Hr.out, Hi.out]; omega
          go_wp2
          go_roundw
          case rel => exact ⟨k + 1, by omega, by go_num, hsm2.out, (by (repeat' (first | (with_reducible exact Below.refl _ _) | (with_reducible assumption) | (with_reducible refine Below.drew ?_) | (with_reducible refine below_drewN ?_ _) | (with_reducible refine Below.alloc ?_ ?_ _) | (with_reducible refine Below.setCell ?_ ?_ _) | omega | (simp; done) | (simp; omega))))⟩
          case measure => simp [intOf]; omega
    · have hk9 : k = n := by omega
      subst hk9
      have hall : Hid (fewWB l = decide (k ≤ 40)) := by
        show _ = _
        rw [fewWB_all (fun j x hx => Hsm.out j x (by rw [← hlen.out]; exact (List.getElem?_eq_some_iff.1 hx).1) hx), hlen.out]
      go_wp2
      go_ret
      exact ⟨ret_bool (by rw [hall.out]; first | rfl | (simp; done) | (simp; omega)), (by (repeat' (first | (with_reducible exact Below.refl _ _) | (with_reducible assumption) | (with_reducible refine Below.drew ?_) | (with_reducible refine below_drewN ?_ _) | (with_reducible refine Below.alloc ?_ ?_ _) | (with_reducible refine Below.setCell ?_ ?_ _) | omega | (simp; done) | (simp; omega))))⟩
end Go.Proofs.YtalmdccgpigppaaGreat
