/- CodeBack: what is encoded is decoded; whatever is decoded may be, and has just the bytes that it was decoded of. -/
import Derived.Test.YtkhihgilodhjfaaCodeLawA
import Derived.Test.YtkhihgilodhjfaaCodeP
import Derived.Test.YtkhihgilodhjfaaPlainBack
namespace Go.Proofs.Ytkhihgilodhjfaa.codeBack
open Go.ChangeShapes Go.WideShapes Go.ChangeAt Go.RowKit
set_option linter.unusedVariables false

theorem noProg_rd (w : World) : ProgRd w noPA noProg := by
  refine ⟨⟨rfl, Row.nil _ _ _⟩, ⟨rfl, Row.nil _ _ _⟩, ⟨rfl, rfl, Row.nil _ _ _⟩, ⟨rfl, rfl, Row.nil _ _ _⟩, ?_, ?_, ?_, ?_⟩ <;> exact ⟨Nat.le_refl _, by unfold maxLen; show 0 ≤ _; omega⟩

set_option maxHeartbeats 1000000 in
theorem walk_big (x : PA) (p : PV) (A : Option Addr) (n c : Nat) (w : World) (hx : ProgRd w x p) (hc : c ≤ maxLen) (hn : n ≤ c) (h : ¬ fewP x ∨ 2000 < n) :
    Calls Try.prog 5 #[.agg #[.slice x.A1 x.n1 x.c1, .slice x.A2 x.n2 x.c2, .int .i64 p.regs, .slice x.A3 x.n3 x.c3, .slice x.A4 x.n4 x.c4], .slice A n c] w fun e w' => e = .returned (.bool true) ∧ Below w.heap.size w w' := by
  by_cases h1 : fewP x
  · have h2 : 2000 < n := h.resolve_left (fun q => q h1)
    have hf1 := fun w => few27_yes x p.regs w h1
    clear h h1
    go_enter Try.func5, Try.ntmps5
    go_wp2_with (first
      | ((go_at_call 16; (with_reducible refine (awake27 _).mono ?_); rintro e w1 ⟨rfl, hb1⟩); have hx1 := Blk.below (w' := w1) (g := w.heap.size) (t := 26) (cs := [.slice x.A1 x.n1 x.c1, .slice x.A2 x.n2 x.c2, .int .i64 p.regs, .slice x.A3 x.n3 x.c3, .slice x.A4 x.n4 x.c4]) (by (repeat' (first | (with_reducible assumption) | (with_reducible refine Blk.top _ (by first | rfl | omega | (simp; done) | (simp; omega)) rfl) | (with_reducible refine Blk.alloc ?_ _) | (with_reducible refine Blk.drew ?_) | (with_reducible refine Blk.drewN ?_ _) | (with_reducible refine Blk.far ?_ (by first | omega | (simp; done) | (simp; omega)) _)))) hb1 (by first | omega | (simp; done) | (simp; omega)); obtain ⟨gx10, gx11, gx12, gx13, gx14⟩ := blk5 hx1; have sz1 := hx1.lt; replace hb1 := below_then' (a := w) (B := w.heap.size) (by (repeat' (first | (with_reducible exact Below.refl _ _) | (with_reducible assumption) | (with_reducible refine Below.drew ?_) | (with_reducible refine below_drewN ?_ _) | (with_reducible refine Below.alloc ?_ ?_ _) | (with_reducible refine Below.setCell ?_ ?_ _) | omega | (simp; done) | (simp; omega)))) hb1 (by first | omega | (simp; done) | (simp; omega)); have hb1s := hb1.size)
      | ((go_at_call 20; (with_reducible refine (hf1 _).mono ?_); rintro e w2 ⟨rfl, hb2⟩); replace hb2 := below_then' (a := w) (B := w.heap.size) (by (repeat' (first | (with_reducible exact Below.refl _ _) | (with_reducible assumption) | (with_reducible refine Below.drew ?_) | (with_reducible refine below_drewN ?_ _) | (with_reducible refine Below.alloc ?_ ?_ _) | (with_reducible refine Below.setCell ?_ ?_ _) | omega | (simp; done) | (simp; omega)))) hb2 (by first | omega | (simp; done) | (simp; omega)); have hb2s := hb2.size)
      | fail "no arm")
    go_ret
    exact ⟨rfl, (by (repeat' (first | (with_reducible exact Below.refl _ _) | (with_reducible assumption) | (with_reducible refine Below.drew ?_) | (with_reducible refine below_drewN ?_ _) | (with_reducible refine Below.alloc ?_ ?_ _) | (with_reducible refine Below.setCell ?_ ?_ _) | omega | (simp; done) | (simp; omega))))⟩
  · have hf2 := fun w hr => few27_no x p w hr h1
    clear h h1
    go_enter Try.func5, Try.ntmps5
    go_wp2_with (first
      | ((go_at_call 16; (with_reducible refine (awake27 _).mono ?_); rintro e w1 ⟨rfl, hb1⟩); have hx1 := Blk.below (w' := w1) (g := w.heap.size) (t := 26) (cs := [.slice x.A1 x.n1 x.c1, .slice x.A2 x.n2 x.c2, .int .i64 p.regs, .slice x.A3 x.n3 x.c3, .slice x.A4 x.n4 x.c4]) (by (repeat' (first | (with_reducible assumption) | (with_reducible refine Blk.top _ (by first | rfl | omega | (simp; done) | (simp; omega)) rfl) | (with_reducible refine Blk.alloc ?_ _) | (with_reducible refine Blk.drew ?_) | (with_reducible refine Blk.drewN ?_ _) | (with_reducible refine Blk.far ?_ (by first | omega | (simp; done) | (simp; omega)) _)))) hb1 (by first | omega | (simp; done) | (simp; omega)); obtain ⟨gx10, gx11, gx12, gx13, gx14⟩ := blk5 hx1; have sz1 := hx1.lt; replace hb1 := below_then' (a := w) (B := w.heap.size) (by (repeat' (first | (with_reducible exact Below.refl _ _) | (with_reducible assumption) | (with_reducible refine Below.drew ?_) | (with_reducible refine below_drewN ?_ _) | (with_reducible refine Below.alloc ?_ ?_ _) | (with_reducible refine Below.setCell ?_ ?_ _) | omega | (simp; done) | (simp; omega)))) hb1 (by first | omega | (simp; done) | (simp; omega)); have hb1s := hb1.size)
      | ((go_at_call 20; (with_reducible refine (hf2 _ (hx.below (b := w.heap.size) (by (repeat' (first | (with_reducible exact Below.refl _ _) | (with_reducible assumption) | (with_reducible refine Below.drew ?_) | (with_reducible refine below_drewN ?_ _) | (with_reducible refine Below.alloc ?_ ?_ _) | (with_reducible refine Below.setCell ?_ ?_ _) | omega | (simp; done) | (simp; omega)))) (Nat.le_refl _))).mono ?_); rintro e w2 ⟨rfl, hb2⟩); replace hb2 := below_then' (a := w) (B := w.heap.size) (by (repeat' (first | (with_reducible exact Below.refl _ _) | (with_reducible assumption) | (with_reducible refine Below.drew ?_) | (with_reducible refine below_drewN ?_ _) | (with_reducible refine Below.alloc ?_ ?_ _) | (with_reducible refine Below.setCell ?_ ?_ _) | omega | (simp; done) | (simp; omega)))) hb2 (by first | omega | (simp; done) | (simp; omega)); have hb2s := hb2.size)
      | fail "no arm")
    go_ret
    exact ⟨rfl, (by (repeat' (first | (with_reducible exact Below.refl _ _) | (with_reducible assumption) | (with_reducible refine Below.drew ?_) | (with_reducible refine below_drewN ?_ _) | (with_reducible refine Below.alloc ?_ ?_ _) | (with_reducible refine Below.setCell ?_ ?_ _) | omega | (simp; done) | (simp; omega))))⟩

theorem pair_l {a : PV × Nat} {p : PV} (h : a.1 = p) : a = (p, a.2) := by subst h; rfl
theorem pair_r {a : PV × Nat} {z : Nat} (h : a.2 = z) : a = (a.1, z) := by subst h; rfl
theorem dec_facts (bs : List UInt8) : (∃ z, z ≠ 0 ∧ decodeL bs = (noProg, z)) ∨ ∃ q, decodeL bs = (q, 0) ∧ mayB q = true ∧ progBs q = bs ∧ ProgWf q := by
  have h1 := decode_cases bs
  have h2 := fun h => bytes_decode (bs := bs) h
  generalize decodeL bs = D at *
  rcases h1 with ⟨hz, hq⟩ | hz
  · exact .inl ⟨_, hz, pair_l hq⟩
  · obtain ⟨b1, b2, b3, b4⟩ := h2 hz
    exact .inr ⟨_, pair_r hz, b1, b2, b3, fun x hx => ⟨(b4 x hx).2.1, (b4 x hx).2.2.2.1, (b4 x hx).2.2.2.2.2.1, (b4 x hx).2.2.2.2.2.2.1, (b4 x hx).2.2.2.2.2.2.2⟩⟩
def aggP (y : PA) (r : Int) : Value := .agg #[.slice y.A1 y.n1 y.c1, .slice y.A2 y.n2 y.c2, .int .i64 r, .slice y.A3 y.n3 y.c3, .slice y.A4 y.n4 y.c4]
theorem dec_to (A : Option Addr) (n c : Nat) (bs : List UInt8) (q : PV) (z : Nat) (h : decodeL bs = (q, z)) (w : World) (hl : RB w A n bs) (h1 : n ≤ c) (h2 : c ≤ maxLen) :
    Calls Try.prog 17 #[.slice A n c] w fun e w' => ∃ y : PA, e = .returned (.tuple #[.agg #[.slice y.A1 y.n1 y.c1, .slice y.A2 y.n2 y.c2, .int .i64 q.regs, .slice y.A3 y.n3 y.c3, .slice y.A4 y.n4 y.c4], .int .i64 (z : Nat)]) ∧ ProgRd w' y q ∧ Below w.heap.size w w' := by
  have := decode_any A n c bs w hl h1 h2
  rw [h] at this
  exact this

set_option maxRecDepth 100000 in
set_option maxHeartbeats 4000000 in
theorem walk_small (x : PA) (p : PV) (A : Option Addr) (n c : Nat) (bs : List UInt8) (w : World) (hx : ProgRd w x p) (hw : ProgAll p) (hl : RB w A n bs) (hc : c ≤ maxLen) (hn : n ≤ c) (h1 : fewP x) (h2 : n ≤ 2000) :
    Calls Try.prog 5 #[.agg #[.slice x.A1 x.n1 x.c1, .slice x.A2 x.n2 x.c2, .int .i64 p.regs, .slice x.A3 x.n3 x.c3, .slice x.A4 x.n4 x.c4], .slice A n c] w fun e w' => e = .returned (.bool true) ∧ Below w.heap.size w w' := by
  have hf1 := fun w => few27_yes x p.regs w h1
  have he1 := fun w h => encode_no x p w h
  have he2 := fun w h => encode_ok x p w h hw.wf
  have hd1 : mayB p = true → decodeL (progBs p) = (p, 0) := fun h => decode_bytes h (fun y hy => (hw.cells y hy).2) (fun y hy => ⟨(hw.code y hy).2.1.2, (hw.code y hy).2.2.1.2, (hw.code y hy).2.2.2.1.2, (hw.code y hy).2.2.2.2.1, (hw.code y hy).2.2.2.2.2⟩)
  have hdx := fun h A n c w => dec_to A n c (progBs p) p 0 (hd1 h) w
  have hs1 : ∀ y w, ProgRd w x p → ProgRd w y p → Calls Try.prog 19 #[.agg #[.slice x.A1 x.n1 x.c1, .slice x.A2 x.n2 x.c2, .int .i64 p.regs, .slice x.A3 x.n3 x.c3, .slice x.A4 x.n4 x.c4], .agg #[.slice y.A1 y.n1 y.c1, .slice y.A2 y.n2 y.c2, .int .i64 p.regs, .slice y.A3 y.n3 y.c3, .slice y.A4 y.n4 y.c4]] w fun e w' => e = .returned (.bool true) ∧ Below w.heap.size w w' := fun y w h h' => by
    have := refcodesame_any x y p p w h h'
    rw [sameB_self] at this
    exact this
  have hs0 : ∀ y w, ProgRd w y noProg → Calls Try.prog 19 #[.agg #[.slice y.A1 y.n1 y.c1, .slice y.A2 y.n2 y.c2, .int .i64 0, .slice y.A3 y.n3 y.c3, .slice y.A4 y.n4 y.c4], .agg #[.slice none 0 0, .slice none 0 0, .int .i64 0, .slice none 0 0, .slice none 0 0]] w fun e w' => e = .returned (.bool true) ∧ Below w.heap.size w w' := fun y w h => by
    have := refcodesame_any y noPA noProg noProg w h (noProg_rd w)
    rw [sameB_self] at this
    exact this
  have hdb := fun q z h => dec_to A n c bs q z h
  have hcs := dec_facts bs
  have hsm : ∀ (B : Option Addr) (N d : Nat) (w : World), RB w B N bs → RB w A n bs → N ≤ maxLen → Calls Try.prog 15 #[.slice B N d, .slice A n c] w fun e w' => e = .returned (.bool true) ∧ ∃ q, w' = w.drewN q :=
    fun B N d w ha hb hn => (same_any B A N n d c _ _ w ha hb hn).mono fun e w' ⟨h1, h2⟩ => ⟨by simpa using h1, h2⟩
  cases hm : mayB p
  case' false => have hen := fun w h => he1 w h hm; clear he1 he2 hd1 hdx hs1
  case' true => have heo := fun w h => he2 w h hm; have hdx := hdx hm; generalize progBs p = PB at *; clear he1 he2 hd1
  all_goals
    clear hm hw h1
    rcases hcs with ⟨z, hz, hq⟩ | ⟨q, hq, b1, b2, b3⟩
    case' inl =>
      have hdn := hdb noProg z hq
      have hzz : (((z : Nat) : Int) == 0) = false := by rw [beq_eq_false_iff_ne]; omega
      have hzn : (((z : Nat) : Int) != 0) = true := by rw [bne_iff_ne]; omega
      have hdn : ∀ w, RB w A n bs → n ≤ c → c ≤ maxLen → Calls Try.prog 17 #[.slice A n c] w fun e w' => ∃ y : PA, e = .returned (.tuple #[.agg #[.slice y.A1 y.n1 y.c1, .slice y.A2 y.n2 y.c2, .int .i64 0, .slice y.A3 y.n3 y.c3, .slice y.A4 y.n4 y.c4], .int .i64 (z : Nat)]) ∧ ProgRd w' y noProg ∧ Below w.heap.size w w' := hdn
      clear hdb hq hz hsm
    case' inr =>
      have hdo := hdb q 0 hq
      have heb := fun y w h => encode_ok y q w h b3 b1
      have hmb := fun y w h => may_any y q w h
      rw [b1] at hmb
      rw [b2] at heb
      have hdo : ∀ w, RB w A n bs → n ≤ c → c ≤ maxLen → Calls Try.prog 17 #[.slice A n c] w fun e w' => ∃ y : PA, e = .returned (.tuple #[.agg #[.slice y.A1 y.n1 y.c1, .slice y.A2 y.n2 y.c2, .int .i64 q.regs, .slice y.A3 y.n3 y.c3, .slice y.A4 y.n4 y.c4], .int .i64 0]) ∧ ProgRd w' y q ∧ Below w.heap.size w w' := hdo
      clear hdb hq b1 b2 b3 hs0
  all_goals
    go_enter Try.func5, Try.ntmps5
    go_wp2_with (first
      | ((go_at_call 16; (with_reducible refine (awake27 _).mono ?_); rintro e w1 ⟨rfl, hb1⟩); have hx1 := Blk.below (w' := w1) (g := w.heap.size) (t := 26) (cs := [.slice x.A1 x.n1 x.c1, .slice x.A2 x.n2 x.c2, .int .i64 p.regs, .slice x.A3 x.n3 x.c3, .slice x.A4 x.n4 x.c4]) (by (repeat' (first | (with_reducible assumption) | (with_reducible refine Blk.top _ (by first | rfl | omega | (simp; done) | (simp; omega)) rfl) | (with_reducible refine Blk.alloc ?_ _) | (with_reducible refine Blk.drew ?_) | (with_reducible refine Blk.drewN ?_ _) | (with_reducible refine Blk.far ?_ (by first | omega | (simp; done) | (simp; omega)) _)))) hb1 (by first | omega | (simp; done) | (simp; omega)); obtain ⟨gx10, gx11, gx12, gx13, gx14⟩ := blk5 hx1; have sz1 := hx1.lt; replace hb1 := below_then' (a := w) (B := w.heap.size) (by (repeat' (first | (with_reducible exact Below.refl _ _) | (with_reducible assumption) | (with_reducible refine Below.drew ?_) | (with_reducible refine below_drewN ?_ _) | (with_reducible refine Below.alloc ?_ ?_ _) | (with_reducible refine Below.setCell ?_ ?_ _) | omega | (simp; done) | (simp; omega)))) hb1 (by first | omega | (simp; done) | (simp; omega)); have hb1s := hb1.size)
      | ((go_at_call 20; (with_reducible refine (hf1 _).mono ?_); rintro e w2 ⟨rfl, hb2⟩); have hx2 := Blk.below (w' := w2) hx1 hb2 (by first | omega | (simp; done) | (simp; omega)); obtain ⟨gx20, gx21, gx22, gx23, gx24⟩ := blk5 hx2; have sz2 := hx2.lt; replace hb2 := below_then' (a := w) (B := w.heap.size) (by (repeat' (first | (with_reducible exact Below.refl _ _) | (with_reducible assumption) | (with_reducible refine Below.drew ?_) | (with_reducible refine below_drewN ?_ _) | (with_reducible refine Below.alloc ?_ ?_ _) | (with_reducible refine Below.setCell ?_ ?_ _) | omega | (simp; done) | (simp; omega)))) hb2 (by first | omega | (simp; done) | (simp; omega)); have hb2s := hb2.size)
      | ((go_at_call 21; (with_reducible refine (hen _ (hx.below (b := w.heap.size) (by (repeat' (first | (with_reducible exact Below.refl _ _) | (with_reducible assumption) | (with_reducible refine Below.drew ?_) | (with_reducible refine below_drewN ?_ _) | (with_reducible refine Below.alloc ?_ ?_ _) | (with_reducible refine Below.setCell ?_ ?_ _) | omega | (simp; done) | (simp; omega)))) (Nat.le_refl _))).mono ?_); rintro e w3 ⟨rfl, hb3⟩); have hx3 := Blk.below (w' := w3) hx2 hb3 (by first | omega | (simp; done) | (simp; omega)); obtain ⟨gx30, gx31, gx32, gx33, gx34⟩ := blk5 hx3; have sz3 := hx3.lt; replace hb3 := below_then' (a := w) (B := w.heap.size) (by (repeat' (first | (with_reducible exact Below.refl _ _) | (with_reducible assumption) | (with_reducible refine Below.drew ?_) | (with_reducible refine below_drewN ?_ _) | (with_reducible refine Below.alloc ?_ ?_ _) | (with_reducible refine Below.setCell ?_ ?_ _) | omega | (simp; done) | (simp; omega)))) hb3 (by first | omega | (simp; done) | (simp; omega)); have hb3s := hb3.size)
      | ((go_at_call 21; (with_reducible refine (heo _ (hx.below (b := w.heap.size) (by (repeat' (first | (with_reducible exact Below.refl _ _) | (with_reducible assumption) | (with_reducible refine Below.drew ?_) | (with_reducible refine below_drewN ?_ _) | (with_reducible refine Below.alloc ?_ ?_ _) | (with_reducible refine Below.setCell ?_ ?_ _) | omega | (simp; done) | (simp; omega)))) (Nat.le_refl _))).mono ?_); rintro e w3 ⟨A3, N3, c3, rfl, own3, hb3⟩); have hx3 := Blk.below (w' := w3) hx2 hb3 (by first | omega | (simp; done) | (simp; omega)); obtain ⟨gx30, gx31, gx32, gx33, gx34⟩ := blk5 hx3; have sz3 := hx3.lt; have cp3 := own3.cap; replace hb3 := below_then' (a := w) (B := w.heap.size) (by (repeat' (first | (with_reducible exact Below.refl _ _) | (with_reducible assumption) | (with_reducible refine Below.drew ?_) | (with_reducible refine below_drewN ?_ _) | (with_reducible refine Below.alloc ?_ ?_ _) | (with_reducible refine Below.setCell ?_ ?_ _) | omega | (simp; done) | (simp; omega)))) hb3 (by first | omega | (simp; done) | (simp; omega)); have hb3s := hb3.size)
      | ((go_at_call 17; (with_reducible refine (hdx _ _ _ _ own3.rd.rb cp3.1 cp3.2).mono ?_); rintro e w4 ⟨y4, rfl, hr4, hb4⟩); have hx4 := Blk.below (w' := w4) hx3 hb4 (by first | omega | (simp; done) | (simp; omega)); obtain ⟨gx40, gx41, gx42, gx43, gx44⟩ := blk5 hx4; have sz4 := hx4.lt; replace hb4 := below_then' (a := w) (B := w.heap.size) (by (repeat' (first | (with_reducible exact Below.refl _ _) | (with_reducible assumption) | (with_reducible refine Below.drew ?_) | (with_reducible refine below_drewN ?_ _) | (with_reducible refine Below.alloc ?_ ?_ _) | (with_reducible refine Below.setCell ?_ ?_ _) | omega | (simp; done) | (simp; omega)))) hb4 (by first | omega | (simp; done) | (simp; omega)); have hb4s := hb4.size)
      | ((go_at_call 19; (with_reducible refine (hs1 _ _ (hx.below (b := w.heap.size) (by (repeat' (first | (with_reducible exact Below.refl _ _) | (with_reducible assumption) | (with_reducible refine Below.drew ?_) | (with_reducible refine below_drewN ?_ _) | (with_reducible refine Below.alloc ?_ ?_ _) | (with_reducible refine Below.setCell ?_ ?_ _) | omega | (simp; done) | (simp; omega)))) (Nat.le_refl _)) (hr4.below (b := w4.heap.size) (by (repeat' (first | (with_reducible exact Below.refl _ _) | (with_reducible assumption) | (with_reducible refine Below.drew ?_) | (with_reducible refine below_drewN ?_ _) | (with_reducible refine Below.alloc ?_ ?_ _) | (with_reducible refine Below.setCell ?_ ?_ _) | omega | (simp; done) | (simp; omega)))) (Nat.le_refl _))).mono ?_); rintro e w5 ⟨rfl, hb5⟩); replace hb5 := below_then' (a := w) (B := w.heap.size) (by (repeat' (first | (with_reducible exact Below.refl _ _) | (with_reducible assumption) | (with_reducible refine Below.drew ?_) | (with_reducible refine below_drewN ?_ _) | (with_reducible refine Below.alloc ?_ ?_ _) | (with_reducible refine Below.setCell ?_ ?_ _) | omega | (simp; done) | (simp; omega)))) hb5 (by first | omega | (simp; done) | (simp; omega)); have hb5s := hb5.size)
      | ((go_at_call 17; (with_reducible refine (hdn _ (hl.below (B := w.heap.size) (by (repeat' (first | (with_reducible exact Below.refl _ _) | (with_reducible assumption) | (with_reducible refine Below.drew ?_) | (with_reducible refine below_drewN ?_ _) | (with_reducible refine Below.alloc ?_ ?_ _) | (with_reducible refine Below.setCell ?_ ?_ _) | omega | (simp; done) | (simp; omega)))) (Nat.le_refl _)) hn hc).mono ?_); rintro e w6 ⟨y6, rfl, hr6, hb6⟩); replace hb6 := below_then' (a := w) (B := w.heap.size) (by (repeat' (first | (with_reducible exact Below.refl _ _) | (with_reducible assumption) | (with_reducible refine Below.drew ?_) | (with_reducible refine below_drewN ?_ _) | (with_reducible refine Below.alloc ?_ ?_ _) | (with_reducible refine Below.setCell ?_ ?_ _) | omega | (simp; done) | (simp; omega)))) hb6 (by first | omega | (simp; done) | (simp; omega)); have hb6s := hb6.size)
      | ((go_at_call 19; (with_reducible refine (hs0 _ _ (hr6.below (b := w6.heap.size) (by (repeat' (first | (with_reducible exact Below.refl _ _) | (with_reducible assumption) | (with_reducible refine Below.drew ?_) | (with_reducible refine below_drewN ?_ _) | (with_reducible refine Below.alloc ?_ ?_ _) | (with_reducible refine Below.setCell ?_ ?_ _) | omega | (simp; done) | (simp; omega)))) (Nat.le_refl _))).mono ?_); rintro e w7 ⟨rfl, hb7⟩); replace hb7 := below_then' (a := w) (B := w.heap.size) (by (repeat' (first | (with_reducible exact Below.refl _ _) | (with_reducible assumption) | (with_reducible refine Below.drew ?_) | (with_reducible refine below_drewN ?_ _) | (with_reducible refine Below.alloc ?_ ?_ _) | (with_reducible refine Below.setCell ?_ ?_ _) | omega | (simp; done) | (simp; omega)))) hb7 (by first | omega | (simp; done) | (simp; omega)); have hb7s := hb7.size)
      | ((go_at_call 17; (with_reducible refine (hdo _ (hl.below (B := w.heap.size) (by (repeat' (first | (with_reducible exact Below.refl _ _) | (with_reducible assumption) | (with_reducible refine Below.drew ?_) | (with_reducible refine below_drewN ?_ _) | (with_reducible refine Below.alloc ?_ ?_ _) | (with_reducible refine Below.setCell ?_ ?_ _) | omega | (simp; done) | (simp; omega)))) (Nat.le_refl _)) hn hc).mono ?_); rintro e w6 ⟨y6, rfl, hr6, hb6⟩); replace hb6 := below_then' (a := w) (B := w.heap.size) (by (repeat' (first | (with_reducible exact Below.refl _ _) | (with_reducible assumption) | (with_reducible refine Below.drew ?_) | (with_reducible refine below_drewN ?_ _) | (with_reducible refine Below.alloc ?_ ?_ _) | (with_reducible refine Below.setCell ?_ ?_ _) | omega | (simp; done) | (simp; omega)))) hb6 (by first | omega | (simp; done) | (simp; omega)); have hb6s := hb6.size)
      | ((go_at_call 21; (with_reducible refine (heb _ _ (hr6.below (b := w6.heap.size) (by (repeat' (first | (with_reducible exact Below.refl _ _) | (with_reducible assumption) | (with_reducible refine Below.drew ?_) | (with_reducible refine below_drewN ?_ _) | (with_reducible refine Below.alloc ?_ ?_ _) | (with_reducible refine Below.setCell ?_ ?_ _) | omega | (simp; done) | (simp; omega)))) (Nat.le_refl _))).mono ?_); rintro e w7 ⟨A7, N7, c7, rfl, own7, hb7⟩); have cp7 := own7.cap; have hr7 := hr6.below (b := w6.heap.size) (below_then' (by (repeat' (first | (with_reducible exact Below.refl _ _) | (with_reducible assumption) | (with_reducible refine Below.drew ?_) | (with_reducible refine below_drewN ?_ _) | (with_reducible refine Below.alloc ?_ ?_ _) | (with_reducible refine Below.setCell ?_ ?_ _) | omega | (simp; done) | (simp; omega)))) hb7 (by first | omega | (simp; done) | (simp; omega))) (Nat.le_refl _); have hy7 := Blk.below (w' := w7) (g := w6.heap.size) (t := 26) (cs := [.slice y6.A1 y6.n1 y6.c1, .slice y6.A2 y6.n2 y6.c2, .int .i64 q.regs, .slice y6.A3 y6.n3 y6.c3, .slice y6.A4 y6.n4 y6.c4]) (by (repeat' (first | (with_reducible assumption) | (with_reducible refine Blk.top _ (by first | rfl | omega | (simp; done) | (simp; omega)) rfl) | (with_reducible refine Blk.alloc ?_ _) | (with_reducible refine Blk.drew ?_) | (with_reducible refine Blk.drewN ?_ _) | (with_reducible refine Blk.far ?_ (by first | omega | (simp; done) | (simp; omega)) _)))) hb7 (by first | omega | (simp; done) | (simp; omega)); obtain ⟨gy70, gy71, gy72, gy73, gy74⟩ := blk5 hy7; have sz7 := hy7.lt; have hN7 : N7 ≤ maxLen := (by omega); replace hb7 := below_then' (a := w) (B := w.heap.size) (by (repeat' (first | (with_reducible exact Below.refl _ _) | (with_reducible assumption) | (with_reducible refine Below.drew ?_) | (with_reducible refine below_drewN ?_ _) | (with_reducible refine Below.alloc ?_ ?_ _) | (with_reducible refine Below.setCell ?_ ?_ _) | omega | (simp; done) | (simp; omega)))) hb7 (by first | omega | (simp; done) | (simp; omega)); have hb7s := hb7.size)
      | ((go_at_call 22; (with_reducible refine (hmb _ _ hr7).mono ?_); rintro e w8 ⟨rfl, hb8⟩); have own8 := own7.below hb8 (Nat.le_refl _); replace hb8 := below_then' (a := w) (B := w.heap.size) (by (repeat' (first | (with_reducible exact Below.refl _ _) | (with_reducible assumption) | (with_reducible refine Below.drew ?_) | (with_reducible refine below_drewN ?_ _) | (with_reducible refine Below.alloc ?_ ?_ _) | (with_reducible refine Below.setCell ?_ ?_ _) | omega | (simp; done) | (simp; omega)))) hb8 (by first | omega | (simp; done) | (simp; omega)); have hb8s := hb8.size)
      | (go_at_call 15; (with_reducible refine (hsm _ _ _ _ own8.rd.rb (hl.below (B := w.heap.size) (by (repeat' (first | (with_reducible exact Below.refl _ _) | (with_reducible assumption) | (with_reducible refine Below.drew ?_) | (with_reducible refine below_drewN ?_ _) | (with_reducible refine Below.alloc ?_ ?_ _) | (with_reducible refine Below.setCell ?_ ?_ _) | omega | (simp; done) | (simp; omega)))) (Nat.le_refl _)) hN7).mono ?_); rintro e w9 ⟨rfl, q9, rfl⟩)
      | fail "no arm")
    go_ret
    exact ⟨rfl, (by (repeat' (first | (with_reducible exact Below.refl _ _) | (with_reducible assumption) | (with_reducible refine Below.drew ?_) | (with_reducible refine below_drewN ?_ _) | (with_reducible refine Below.alloc ?_ ?_ _) | (with_reducible refine Below.setCell ?_ ?_ _) | omega | (simp; done) | (simp; omega))))⟩

theorem walk (w : World) (v0 : Value) (h0 : ∃ x p, v0 = .agg #[.slice x.A1 x.n1 x.c1, .slice x.A2 x.n2 x.c2, .int .i64 p.regs, .slice x.A3 x.n3 x.c3, .slice x.A4 x.n4 x.c4] ∧ ProgRd w x p ∧ ProgAll p) (A : Option Addr) (n c : Nat) (l : List UInt8) (r : RB w A n l) (nc : n ≤ c) (cm : c ≤ maxLen) :
    Calls Try.prog 5 #[v0, .slice A n c] w fun e w' => e = .returned (.bool true) ∧ Below w.heap.size w w' := by
  obtain ⟨x, p, rfl, hx, hp⟩ := h0
  by_cases h : fewP x ∧ n ≤ 2000
  · exact walk_small x p A n c l w hx hp r cm nc h.1 h.2
  · exact walk_big x p A n c w hx cm nc (by by_cases q : fewP x; exact .inr (Nat.lt_of_not_le (fun q2 => h ⟨q, q2⟩)); exact .inl q)

--FRAME tompionlaw27 CodeBack codeBack walk raw:tompion/api.Program:args_prog:.agg‹_›#[.slice‹_›none‹_›0‹_›0,‹_›.slice‹_›none‹_›0‹_›0,‹_›.int‹_›.i64‹_›0,‹_›.slice‹_›none‹_›0‹_›0,‹_›.slice‹_›none‹_›0‹_›0] bytes
theorem own : ownKnob Try.prog.godebug = none := by kernel_rfl
theorem laidOut : laidOutB Try.prog = true := by kernel_rfl

set_option maxRecDepth 100000 in
theorem lifted (os : Os) (started : os.Started) (H : Type) (enc : TypeId × Value → H) :
    ReturnsInHanded {} Try.checked os 5 .any (Rows.codeBackSpec.pre6 enc Try.prog Try.f5 Rows.codeBackRow.domain false) (Rows.codeBackSpec.post enc Try.prog Try.f5 false true false false) := by
  refine returnsInHanded_of_change (C := Try.checked) own started (by kernel_rfl) Try.func5
    (ChangeSpec.witness6 (enc := enc) (C := Try.checked) false ⟨#[], #[.agg #[.slice none 0 0, .slice none 0 0, .int .i64 0, .slice none 0 0, .slice none 0 0], .slice none 0 0], []⟩ 8 (by kernel_rfl) (by kernel_rfl) (by kernel_rfl) (by kernel_rfl)) ?_
  intro W base args ds gs before hval0 hW hcnd _
  have hval : ∀ (j : Nat) t v, Try.f5.params[j]? = some t → args[j]? = some v → Value.okWide Try.prog W .any base t v := hval0
  have hW' := hW
  obtain ⟨p, q, hA0, hV, rfl, hfz, hnd⟩ := hW
  have hA : DataW.TrodAll enc Try.prog W 0 (fun _ => true) true Try.f5.params.toList args.toList ds p := hA0
  rw [Try.params5] at hA hval
  obtain ⟨v0, vs0, d0, ds0, p0, q0, hargs, rfl, rfl, h0, rr0⟩ := trodAll_cons hA
  obtain ⟨v1, vs1, d1, ds1, p1, q1, rfl, rfl, rfl, h1, rr1⟩ := trodAll_cons rr0
  obtain ⟨rfl, rfl, rfl⟩ := trodAll_nil rr1
  obtain rfl : args = #[v0, v1] := by cases args; simp_all
  obtain ⟨rfl, rfl⟩ := trodVars_none hV
  have k0 := h0
  have lt0 : ∀ x ∈ p0, x.block < W.heap.size := by obtain ⟨m, hm⟩ := k0; exact DataW.trod_lt m _ _ _ hm
  have x0 := args_prog (hval 0 26 v0 rfl rfl) h0
  have k1 := h1
  have lt1 : ∀ x ∈ p1, x.block < W.heap.size := by obtain ⟨m, hm⟩ := k1; exact DataW.trod_lt m _ _ _ hm
  obtain ⟨A1, n1, c1, l1, rfl, r1, nc1, cm1⟩ := args_bytes Try.underlying29 Try.underlying5 (by kernel_rfl) (hval 1 29 v1 rfl rfl) h1
  clear hA0 hval0
  refine (walk W v0 x0 A1 n1 c1 l1 r1 nc1 cm1).mono fun e W' ⟨he, bel⟩ => ?_
  subst he
  exact ⟨_, rfl, _, _, _, [], _, [], hW', trodAll_mk1 (shut_bool Try.underlying4 _), (trodAll_cons_mk (Below.trod laidOut (by kernel_rfl) (of_decide_eq_true (by kernel_rfl)) k0 bel lt0) (trodAll_cons_mk (Below.trod laidOut (by kernel_rfl) (of_decide_eq_true (by kernel_rfl)) k1 bel lt1) trodAll_mk0)), rfl, bel.frame _, fun h => by cases h⟩

theorem over : Rows.codeBackRow.holds Try.pinned (OpenSpec.ofChange Rows.codeBackSpec) :=
  OpenClaim.holds_of_wide 5 Try.f5 rfl rfl rfl rfl rfl rfl rfl ⟨rfl, rfl, rfl, rfl, rfl⟩ rfl rfl rfl rfl rfl (by kernel_rfl) Try.func5 (by kernel_rfl)
    (of_decide_eq_true (by kernel_rfl)) (by unfold Func.isWrapper; first | (rw [if_pos (by decide +kernel)]; kernel_rfl) | (rw [if_neg (by decide +kernel)]; exact ⟨rfl, rfl⟩))
    (fun os started H enc _ => lifted os started H enc)

theorem proved : Rows.CodeBackSaid := over
--ENDFRAME
end Go.Proofs.Ytkhihgilodhjfaa.codeBack
