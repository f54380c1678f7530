/- Contracts for lots: where there is none; the reference's Right and Same; the chapter's example. -/
import Derived.Test.YtkhihgilodhjfaaLotD
import Derived.Test.YtkhihgilodhjfaaInts
import Derived.Test.YtkhihgilodhjfaaSame
namespace Go.Proofs.Ytkhihgilodhjfaa
open Go.RowKit

theorem row_nil (A : Option Addr) (n c : Nat) (w : World) : Calls Try.prog 26 #[.pointer none, .slice A n c] w fun e w' => e = .returned (.slice none 0 0) ∧ Below w.heap.size w w' := by
  go_enter Try.func26, Try.ntmps26
  go_wp2
  go_ret
  exact ⟨rfl, (by (repeat' (first | (with_reducible exact Below.refl _ _) | (with_reducible assumption) | (with_reducible refine Below.drew ?_) | (with_reducible refine below_drewN ?_ _) | (with_reducible refine Below.alloc ?_ ?_ _) | (with_reducible refine Below.setCell ?_ ?_ _) | omega | (simp; done) | (simp; omega))))⟩
theorem event_nil (A : Option Addr) (n c : Nat) (w : World) : Calls Try.prog 24 #[.pointer none, .slice A n c] w fun e w' => e = .returned (.tuple #[.agg #[.int .i64 0, .int .i64 0, .slice none 0 0, .slice none 0 0], .int .i64 1]) ∧ Below w.heap.size w w' := by
  go_enter Try.func24, Try.ntmps24
  go_wp2
  refine bodyPost_ret (v := .tuple #[.agg #[.int .i64 0, .int .i64 0, .slice none 0 0, .slice none 0 0], .int .i64 1]) (by simp [results, Try.results24, go_sem ]) rfl ?_
  exact ⟨rfl, (by (repeat' (first | (with_reducible exact Below.refl _ _) | (with_reducible assumption) | (with_reducible refine Below.drew ?_) | (with_reducible refine below_drewN ?_ _) | (with_reducible refine Below.alloc ?_ ?_ _) | (with_reducible refine Below.setCell ?_ ?_ _) | omega | (simp; done) | (simp; omega))))⟩
theorem row_bad (g : Nat) (A : Option Addr) (n c : Nat) (ts : List Int) (w : World) (ht : RI w A n ts) (hn : n ≤ maxLen) (hr : rightB ts = false) : Calls Try.prog 26 #[.pointer (some ⟨g, 0, none⟩), .slice A n c] w fun e w' => e = .returned (.slice none 0 0) ∧ Below w.heap.size w w' := by
  have hright := fun w h => right_any A n c ts w h hn
  rw [hr] at hright
  go_enter Try.func26, Try.ntmps26
  go_wp2_with (go_at_call 62; (with_reducible refine (hright _ (ht.below (B := w.heap.size) (by (repeat' (first | (with_reducible exact Below.refl _ _) | (with_reducible assumption) | (with_reducible refine Below.drew ?_) | (with_reducible refine below_drewN ?_ _) | (with_reducible refine Below.alloc ?_ ?_ _) | (with_reducible refine Below.setCell ?_ ?_ _) | omega | (simp; done) | (simp; omega)))) (Nat.le_refl _))).mono ?_); rintro e w1 ⟨rfl, rfl⟩)
  go_ret
  exact ⟨rfl, (by (repeat' (first | (with_reducible exact Below.refl _ _) | (with_reducible assumption) | (with_reducible refine Below.drew ?_) | (with_reducible refine below_drewN ?_ _) | (with_reducible refine Below.alloc ?_ ?_ _) | (with_reducible refine Below.setCell ?_ ?_ _) | omega | (simp; done) | (simp; omega))))⟩
theorem event_bad (g : Nat) (A : Option Addr) (n c : Nat) (ts : List Int) (w : World) (ht : RI w A n ts) (hn : n ≤ maxLen) (hr : rightB ts = false) : Calls Try.prog 24 #[.pointer (some ⟨g, 0, none⟩), .slice A n c] w fun e w' => e = .returned (.tuple #[.agg #[.int .i64 0, .int .i64 0, .slice none 0 0, .slice none 0 0], .int .i64 2]) ∧ Below w.heap.size w w' := by
  have hright := fun w h => right_any A n c ts w h hn
  rw [hr] at hright
  go_enter Try.func24, Try.ntmps24
  go_wp2_with (go_at_call 62; (with_reducible refine (hright _ (ht.below (B := w.heap.size) (by (repeat' (first | (with_reducible exact Below.refl _ _) | (with_reducible assumption) | (with_reducible refine Below.drew ?_) | (with_reducible refine below_drewN ?_ _) | (with_reducible refine Below.alloc ?_ ?_ _) | (with_reducible refine Below.setCell ?_ ?_ _) | omega | (simp; done) | (simp; omega)))) (Nat.le_refl _))).mono ?_); rintro e w1 ⟨rfl, rfl⟩)
  refine bodyPost_ret (v := .tuple #[.agg #[.int .i64 0, .int .i64 0, .slice none 0 0, .slice none 0 0], .int .i64 2]) (by simp [results, Try.results24, go_sem ]) rfl ?_
  exact ⟨rfl, (by (repeat' (first | (with_reducible exact Below.refl _ _) | (with_reducible assumption) | (with_reducible refine Below.drew ?_) | (with_reducible refine below_drewN ?_ _) | (with_reducible refine Below.alloc ?_ ?_ _) | (with_reducible refine Below.setCell ?_ ?_ _) | omega | (simp; done) | (simp; omega))))⟩

/-- An event that is right. -/
def EvOk (x : EvD) : Prop := (x.kind = 1 ∧ x.num = 0 ∧ 1 ≤ x.row.length ∧ x.row.length ≤ 8 ∧ x.ch = []) ∨ ((x.kind = 2 ∨ x.kind = 4) ∧ 0 ≤ x.num ∧ x.row = [] ∧ x.ch = []) ∨ (x.kind = 3 ∧ x.num = 0 ∧ x.row = [] ∧ x.ch = []) ∨ (x.kind = 5 ∧ -1 ≤ x.num ∧ x.row = [] ∧ x.ch.length ≤ 64)
theorem evD_ok (ts : List Int) (s : UInt64) (hr : rightB ts = true) : EvOk (evD ts s).2 := by
  obtain ⟨_, h1, h8⟩ := rightB_true.1 hr
  have hG : ∀ (L : UInt64 → Int → UInt64 × Int) (C : UInt64 → Nat → UInt64 × List UInt8) (R : List Int → UInt64 → UInt64 × List Int), (∀ s n, 0 ≤ (L s n).2) → (∀ s n, 1 ≤ n → (L s n).2 < n) → (∀ s n, (C s n).2.length = n) → (∀ s, (R ts s).2.length = ts.length) → EvOk (evG L C R ts s).2 := by
    intro L C R p1 p2 p3 p4
    unfold evG
    have q6 := p1 (L s 20).1 6
    have q12 := p1 (L s 20).1 12
    have q8 := p1 (L s 20).1 8
    have q5 := p1 (L (L s 20).1 8).1 5
    have r5 := p2 (L (L s 20).1 8).1 5 (by decide)
    split
    · exact .inl ⟨rfl, rfl, by show 1 ≤ (R ts _).2.length; rw [p4]; exact h1, by show (R ts _).2.length ≤ 8; rw [p4]; exact h8, rfl⟩
    split
    · exact .inr (.inl ⟨.inl rfl, q6, rfl, rfl⟩)
    split
    · exact .inr (.inr (.inl ⟨rfl, rfl, rfl, rfl⟩))
    split
    · exact .inr (.inl ⟨.inr rfl, q12, rfl, rfl⟩)
    · exact .inr (.inr (.inr ⟨rfl, by show -1 ≤ (L _ 8).2 - 1; omega, rfl, by show (C _ _).2.length ≤ 64; rw [p3]; omega⟩))
  exact hG lotB chD rowD lotB_pos lotB_below chD_len (fun s => (rowD_all s _ ts rfl).1)
set_option maxRecDepth 100000 in
theorem right39_any (x : EvD) (B1 B2 : Option Addr) (n1 c1 n2 c2 : Nat) (w : World) (h : EvOk x) (h1 : x.row.length = n1) (h2 : x.ch.length = n2) :
    Calls Try.prog 35 #[.agg #[.int .i64 x.kind, .int .i64 x.num, .slice B1 n1 c1, .slice B2 n2 c2]] w fun e w' => e = .returned (.bool true) ∧ Below w.heap.size w w' := by
  obtain ⟨k, n, r, c⟩ := x
  simp only at h1 h2 ⊢
  rcases h with ⟨a, b, d, e, f⟩ | ⟨a, b, d, e⟩ | ⟨a, b, d, e⟩ | ⟨a, b, d, e⟩
  · simp only at a b d e f
    subst a b f
    simp at h2
    subst h2
    rw [h1] at d e
    clear h1
    go_enter Try.func35, Try.ntmps35
    go_wp2
    go_ret
    exact ⟨rfl, (by (repeat' (first | (with_reducible exact Below.refl _ _) | (with_reducible assumption) | (with_reducible refine Below.drew ?_) | (with_reducible refine below_drewN ?_ _) | (with_reducible refine Below.alloc ?_ ?_ _) | (with_reducible refine Below.setCell ?_ ?_ _) | omega | (simp; done) | (simp; omega))))⟩
  · simp only at a b d e
    subst d e
    simp at h1 h2
    subst h1 h2
    rcases a with rfl | rfl
    all_goals
      go_enter Try.func35, Try.ntmps35
      go_wp2
      go_ret
      exact ⟨rfl, (by (repeat' (first | (with_reducible exact Below.refl _ _) | (with_reducible assumption) | (with_reducible refine Below.drew ?_) | (with_reducible refine below_drewN ?_ _) | (with_reducible refine Below.alloc ?_ ?_ _) | (with_reducible refine Below.setCell ?_ ?_ _) | omega | (simp; done) | (simp; omega))))⟩
  · simp only at a b d e
    subst a b d e
    simp at h1 h2
    subst h1 h2
    go_enter Try.func35, Try.ntmps35
    go_wp2
    go_ret
    exact ⟨rfl, (by (repeat' (first | (with_reducible exact Below.refl _ _) | (with_reducible assumption) | (with_reducible refine Below.drew ?_) | (with_reducible refine below_drewN ?_ _) | (with_reducible refine Below.alloc ?_ ?_ _) | (with_reducible refine Below.setCell ?_ ?_ _) | omega | (simp; done) | (simp; omega))))⟩
  · simp only at a b d e
    subst a d
    simp at h1
    subst h1
    rw [h2] at e
    clear h2
    go_enter Try.func35, Try.ntmps35
    go_wp2
    go_ret
    exact ⟨rfl, (by (repeat' (first | (with_reducible exact Below.refl _ _) | (with_reducible assumption) | (with_reducible refine Below.drew ?_) | (with_reducible refine below_drewN ?_ _) | (with_reducible refine Below.alloc ?_ ?_ _) | (with_reducible refine Below.setCell ?_ ?_ _) | omega | (simp; done) | (simp; omega))))⟩

/-- A slice of events that reads as a list. -/
def EvsRd (w : World) (A : Option Addr) (n : Nat) (l : List EvD) : Prop := l.length = n ∧ ∀ k x, l[k]? = some x → ∃ b o B1 n1 c1 B2 n2 c2, A = some ⟨b, o, none⟩ ∧ b < w.heap.size ∧
  w.cell? ⟨b, o + k * 4, none⟩ = some (.int .i64 x.kind) ∧ w.cell? ⟨b, o + k * 4 + 1, none⟩ = some (.int .i64 x.num) ∧ w.cell? ⟨b, o + k * 4 + 2, none⟩ = some (.slice B1 n1 c1) ∧ w.cell? ⟨b, o + k * 4 + 3, none⟩ = some (.slice B2 n2 c2) ∧
  RI w B1 n1 x.row ∧ RB w B2 n2 x.ch ∧ n1 ≤ maxLen ∧ n2 ≤ maxLen
theorem EvsRd.below {B : Nat} {w w' : World} {A : Option Addr} {n : Nat} {l : List EvD} (h : EvsRd w A n l) (hb : Below B w w') (hB : w.heap.size ≤ B) : EvsRd w' A n l := by
  refine ⟨h.1, fun k x hx => ?_⟩
  obtain ⟨b, o, B1, n1, c1, B2, n2, c2, hA, hlt, e0, e1, e2, e3, r1, r2, m1, m2⟩ := h.2 k x hx
  exact ⟨b, o, B1, n1, c1, B2, n2, c2, hA, Nat.lt_of_lt_of_le hlt hb.size, (hb.cell (Nat.lt_of_lt_of_le hlt hB)).trans e0, (hb.cell (Nat.lt_of_lt_of_le hlt hB)).trans e1, (hb.cell (Nat.lt_of_lt_of_le hlt hB)).trans e2, (hb.cell (Nat.lt_of_lt_of_le hlt hB)).trans e3, r1.below hb hB, r2.below hb hB, m1, m2⟩
set_option maxRecDepth 100000 in
theorem same39_any (A B : Option Addr) (n c d : Nat) (l : List EvD) (w : World) (ha : EvsRd w A n l) (hb : EvsRd w B n l) (hn : n ≤ maxLen) :
    Calls Try.prog 30 #[.slice A n c, .slice B n d] w fun e w' => e = .returned (.bool true) ∧ ∃ q, w' = w.drewN q := by
  unfold maxLen at hn
  have hl := ha.1
  have hnn : (((n : Nat) : Int) != (n : Int)) = false := by simp
  have hx : ∀ k, k < n → ∃ x, l[k]? = some x := fun k hk => ⟨l[k]'(by omega), List.getElem?_eq_getElem (by omega)⟩
  clear hl
  go_enter Try.func30, Try.ntmps30
  go_wp2
  go_loopw [5] (fun i wr => ∃ j q, j ≤ n ∧ i = .int .i64 (j : Nat) ∧ wr = w.drewN q) (fun i _ => n - (intOf i).toNat)
  case atStart => exact ⟨0, 0, Nat.zero_le _, rfl, rfl⟩
  case round =>
    obtain ⟨j, q, hj, rfl, hwr⟩ := hrel
    have haW : EvsRd wr A n l := by rw [hwr]; exact ha
    have hbW : EvsRd wr B n l := by rw [hwr]; exact hb
    have Hwr := Lib.hid hwr
    clear hwr ha hb
    by_cases hlt : j < n
    · obtain ⟨x, hx⟩ := hx j hlt
      obtain ⟨b, o, B1, n1, c1, B2, n2, c2, rfl, hlt1, e0, e1, e2, e3, r1, r2, m1, m2⟩ := haW.2 j x hx
      obtain ⟨b', o', B1', n1', c1', B2', n2', c2', rfl, hlt2, e0', e1', e2', e3', r1', r2', m1', m2'⟩ := hbW.2 j x hx
      have hi := fun nq => ints_any B1 B1' n1 n1' c1 c1' x.row x.row (wr.drewN nq) r1 r1' m1
      have hs := fun nq => same_any B2 B2' n2 n2' c2 c2' x.ch x.ch (wr.drewN nq) r2 r2' m2
      simp only [decide_true] at hi hs
      have hlt' : (j : Int) < n := by omega
      have hj0 : (0 : Int) ≤ j := by omega
      clear haW hbW r1 r2 r1' r2'
      generalize x.kind = kk at *
      generalize x.num = nn at *
      have t1 : (kk != kk) = false := by simp
      have t2 : (nn != nn) = false := by simp
      go_wp2
      go_big_quiet (first
        | (go_at_call 31; exact Calls.quiet_of (hi _))
        | (go_at_call 15; exact Calls.quiet_of (hs _)))
      go_wp2
      go_roundw
      case rel => exact ⟨j + 1, q + nq, by omega, by go_num, by rw [Hwr.out]; exact World.drewN_drewN _ _ _⟩
      case measure => simp [intOf]; omega
    · go_wp2
      go_ret
      exact ⟨rfl, _, Hwr.out⟩

theorem evs_one {w : World} {b : Nat} {t : TypeId} {x : EvD} {B1 B2 : Option Addr} {n1 c1 n2 c2 : Nat} (h : Blk w b t [.int .i64 x.kind, .int .i64 x.num, .slice B1 n1 c1, .slice B2 n2 c2]) (r1 : RI w B1 n1 x.row) (r2 : RB w B2 n2 x.ch) (m1 : n1 ≤ maxLen) (m2 : n2 ≤ maxLen) : EvsRd w (some ⟨b, 0, none⟩) 1 [x] := by
  refine ⟨rfl, fun k y hy => ?_⟩
  match k, hy with
  | 0, hy =>
    simp only [List.getElem?_cons_zero, Option.some.injEq] at hy
    subst hy
    exact ⟨b, 0, B1, n1, c1, B2, n2, c2, rfl, h.lt, h.cell 0, h.cell 1, h.cell 2, h.cell 3, r1, r2, m1, m2⟩
theorem lot_differs : (lotB (UInt64.ofNat (un 1)) 1000).2 ≠ (lotB (UInt64.ofNat (un 2)) 1000).2 := by decide +kernel
set_option maxRecDepth 100000 in
theorem awake44_gen (L : UInt64 → Int → UInt64 × Int) (E : List Int → UInt64 → UInt64 × EvD) (s1 s2 : UInt64) (w : World)
    (hn1 : ∀ w, Calls Try.prog 27 #[.int .i64 1] w fun e w' => e = .returned (.pointer (some ⟨w.heap.size, 0, none⟩)) ∧ LotAt w' w.heap.size s1 ∧ Below w.heap.size w w' ∧ w'.heap.size = w.heap.size + 1)
    (hn2 : ∀ w, Calls Try.prog 27 #[.int .i64 2] w fun e w' => e = .returned (.pointer (some ⟨w.heap.size, 0, none⟩)) ∧ LotAt w' w.heap.size s2 ∧ Below w.heap.size w w' ∧ w'.heap.size = w.heap.size + 1)
    (hbelow : ∀ (g : Nat) (s : UInt64) (k : Int) (w : World), LotAt w g s → Calls Try.prog 25 #[.pointer (some ⟨g, 0, none⟩), .int .i64 k] w fun e w' => e = .returned (.int .i64 (L s k).2) ∧ LotAt w' g (L s k).1 ∧ w.grownBy w' (some g) ∧ w'.heap.size = w.heap.size)
    (hev : ∀ (g : Nat) (s : UInt64) (A : Option Addr) (n c : Nat) (w : World), RI w A n [1] → n ≤ maxLen → LotAt w g s → Calls Try.prog 24 #[.pointer (some ⟨g, 0, none⟩), .slice A n c] w (EvEnd LotAt w g (E [1] s) mkOk))
    (hok : ∀ s, EvOk (E [1] s).2) (h0 : ∀ s, (L s 0).2 = 0) (hne : (L s1 1000).2 ≠ (L s2 1000).2) :
    Calls Try.prog 23 #[] w fun e w' => e = .returned (.bool true) ∧ Below w.heap.size w w' := by
  have hne' : ((L s1 1000).2 != (L s2 1000).2) = true := by rw [bne_iff_ne]; exact hne
  clear hne
  go_enter Try.func23, Try.ntmps23
  go_wp2_with (first
    | (have h4' := hb4.size; (go_at_call 27; (with_reducible refine (hn1 _).mono ?_); rintro e w5 ⟨rfl, hl5, hb5, hs5⟩); replace hb5 := below_then' (a := w) (B := w.heap.size) (by (repeat' (first | (with_reducible exact Below.refl _ _) | (with_reducible assumption) | (with_reducible refine Below.drew ?_) | (with_reducible refine below_drewN ?_ _) | (with_reducible refine Below.alloc ?_ ?_ _) | (with_reducible refine Below.setCell ?_ ?_ _) | omega | (simp; done) | (simp; omega)))) hb5 (by first | omega | (simp; done) | (simp; omega)); have hb5s := hb5.size; clear hs5)
    | ((go_at_call 27; (with_reducible refine (hn1 _).mono ?_); rintro e w1 ⟨rfl, hl1, hb1, hs1⟩); have ri1 : RI (w1.alloc (.cells #[.int .i64 1] 3)) (some ⟨w1.heap.size, 0, none⟩) 1 [1] := Rd.ri (Rd.of_block (enc := iv) (l := [1]) (heap_top _ _ (by simp)) rfl); have ha1 := hl1.alloc (.cells #[.int .i64 1] 3); have S1 := Lib.hid hs1; clear hs1)
    | ((go_at_call 24; (with_reducible refine (hev _ _ _ _ _ _ ri1 (by decide) ha1).mono ?_); rintro e w2 ⟨B1, n1, c1, B2, n2, c2, rfl, o1, o2, hl2, hk2⟩); have sz2 := hl2.lt; have l1 := o1.1; have l2 := o2.1; have hb2 : Below w.heap.size w w2 := ((((Keep.of_below hb1).alloc _).trans (F := (· = w.heap.size)) (G := (· = w.heap.size)) hk2 (fun _ _ e => e)).below (fun x e => (by omega)) (Nat.le_refl _)); have hl2a := hl2.alloc (.cells #[.int .i64 (E [1] s1).2.kind, .int .i64 (E [1] s1).2.num, .slice B1 n1 c1, .slice B2 n2 c2] 51))
    | ((go_at_call 35; (with_reducible refine (right39_any (E [1] s1).2 _ _ _ _ _ _ _ (hok _) l1 l2).mono ?_); rintro e w3 ⟨rfl, hb3⟩); have hl3 : LotAt w3 w.heap.size (E [1] s1).1 := hl2a.keep (Keep.of_below (F := fun _ => False) hb3) (fun e => e); replace hb3 := below_then' (a := w) (B := w.heap.size) (by (repeat' (first | (with_reducible exact Below.refl _ _) | (with_reducible assumption) | (with_reducible refine Below.drew ?_) | (with_reducible refine below_drewN ?_ _) | (with_reducible refine Below.alloc ?_ ?_ _) | (with_reducible refine Below.setCell ?_ ?_ _) | omega | (simp; done) | (simp; omega)))) hb3 (by first | omega | (simp; done) | (simp; omega)); have hb3s := hb3.size)
    | ((go_at_call 25; (with_reducible refine (hbelow _ _ 0 _ hl3).mono ?_); rintro e w4 ⟨rfl, hl4, hg4, hs4⟩); have hb4 := below_of_only (g := w.heap.size) hb3 hg4 hb3.size (Nat.le_refl _); clear hs4)
    | ((go_at_call 25; (with_reducible refine (hbelow _ _ 1000 _ hl5).mono ?_); rintro e w6 ⟨rfl, hl6, hg6, hs6⟩); have hb6 := below_of_only hb5 hg6 hb5.size hb4.size; have hb6s := hb6.size; clear hs6)
    | ((go_at_call 27; (with_reducible refine (hn2 _).mono ?_); rintro e w7 ⟨rfl, hl7, hb7, hs7⟩); replace hb7 := below_then' (a := w) (B := w.heap.size) (by (repeat' (first | (with_reducible exact Below.refl _ _) | (with_reducible assumption) | (with_reducible refine Below.drew ?_) | (with_reducible refine below_drewN ?_ _) | (with_reducible refine Below.alloc ?_ ?_ _) | (with_reducible refine Below.setCell ?_ ?_ _) | omega | (simp; done) | (simp; omega)))) hb7 (by first | omega | (simp; done) | (simp; omega)); have hb7s := hb7.size; clear hs7)
    | ((go_at_call 25; (with_reducible refine (hbelow _ _ 1000 _ hl7).mono ?_); rintro e w8 ⟨rfl, hl8, hg8, hs8⟩); have hb8 := below_of_only hb7 hg8 hb7.size hb6.size; clear hs8)
    | fail "no arm")
  go_ret
  exact ⟨rfl, hb8⟩
theorem awake44 (w : World) : Calls Try.prog 23 #[] w fun e w' => e = .returned (.bool true) ∧ Below w.heap.size w w' :=
  awake44_gen lotB evD (UInt64.ofNat (un 1)) (UInt64.ofNat (un 2)) w (fun w => newlot_any 1 w) (fun w => newlot_any 2 w) (fun g s k w h => below_any g s k w h) (fun g s A n c w h1 h2 h3 => event_any g s A n c [1] w h1 h2 h3 (by decide)) (fun s => evD_ok [1] s (by decide)) (fun _ => rfl) lot_differs
end Go.Proofs.Ytkhihgilodhjfaa
