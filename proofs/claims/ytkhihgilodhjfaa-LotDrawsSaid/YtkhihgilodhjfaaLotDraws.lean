/- LotDraws: whatever is drawn, of any lot, is what the document says; of a lot that is none nothing is. -/
import Derived.Test.YtkhihgilodhjfaaLotE
import Derived.Test.YtkhihgilodhjfaaFrame
namespace Go.Proofs.Ytkhihgilodhjfaa.lotDraws
open Go.ChangeShapes Go.WideShapes Go.ChangeAt Go.RowKit
set_option linter.unusedVariables false

theorem _root_.Go.Proofs.Ytkhihgilodhjfaa.LotAt.drew {w : World} {g : Nat} {s : UInt64} (h : LotAt w g s) : LotAt w.drew g s := h
theorem _root_.Go.Proofs.Ytkhihgilodhjfaa.LotAt.drewN {w : World} {g : Nat} {s : UInt64} (h : LotAt w g s) (k : Nat) : LotAt (w.drewN k) g s := h
theorem _root_.Go.Proofs.Ytkhihgilodhjfaa.RLotAt.drew {w : World} {g : Nat} {s : UInt64} (h : RLotAt w g s) : RLotAt w.drew g s := h
theorem _root_.Go.Proofs.Ytkhihgilodhjfaa.RLotAt.drewN {w : World} {g : Nat} {s : UInt64} (h : RLotAt w g s) (k : Nat) : RLotAt (w.drewN k) g s := h
set_option maxRecDepth 100000 in
set_option maxHeartbeats 8000000 in
theorem walk_gen (L : UInt64 → Int → UInt64 × Int) (RR : List Int → UInt64 → UInt64 × List Int) (E : List Int → UInt64 → UInt64 × EvD) (s0 : UInt64) (seed : Int) (A : Option Addr) (n c : Nat) (ts : List Int) (B : Option Addr) (m d : Nat) (ls : List Int) (w : World)
    (ht : RI w A n ts) (hn : n ≤ maxLen) (hl : RI w B m ls) (hm : m ≤ maxLen) (hsg : sg s0.toNat = seed)
    (hnew : ∀ w, Calls Try.prog 27 #[.int .i64 seed] w fun e w' => e = .returned (.pointer (some ⟨w.heap.size, 0, none⟩)) ∧ LotAt w' w.heap.size s0 ∧ Below w.heap.size w w' ∧ w'.heap.size = w.heap.size + 1)
    (hbelow : ∀ (g : Nat) (s : UInt64) (k : Int) (w : World), LotAt w g s → Calls Try.prog 25 #[.pointer (some ⟨g, 0, none⟩), .int .i64 k] w fun e w' => e = .returned (.int .i64 (L s k).2) ∧ LotAt w' g (L s k).1 ∧ w.grownBy w' (some g) ∧ w'.heap.size = w.heap.size)
    (hrbelow : ∀ (g : Nat) (s : UInt64) (k : Int) (w : World), RLotAt w g s → Calls Try.prog 28 #[.pointer (some ⟨g, 0, none⟩), .int .i64 k] w fun e w' => e = .returned (.int .i64 (L s k).2) ∧ RLotAt w' g (L s k).1 ∧ Keep (· = g) w w')
    (hrow : rightB ts = true → ∀ (g : Nat) (s : UInt64) (w : World), RI w A n ts → LotAt w g s → Calls Try.prog 26 #[.pointer (some ⟨g, 0, none⟩), .slice A n c] w fun e w' => ∃ B d, e = .returned (.slice B n d) ∧ Ow iv w' w.heap.size 3 B n d (RR ts s).2 ∧ LotAt w' g (RR ts s).1 ∧ Keep (· = g) w w')
    (hrrow : rightB ts = true → ∀ (g : Nat) (s : UInt64) (w : World), RI w A n ts → RLotAt w g s → A.map (·.block) ≠ some g → Calls Try.prog 32 #[.pointer (some ⟨g, 0, none⟩), .slice A n c] w fun e w' => ∃ B d, e = .returned (.slice B n d) ∧ Ow iv w' w.heap.size 3 B n d (RR ts s).2 ∧ RLotAt w' g (RR ts s).1 ∧ Keep (· = g) w w')
    (hev : rightB ts = true → ∀ (g : Nat) (s : UInt64) (w : World), RI w A n ts → LotAt w g s → Calls Try.prog 24 #[.pointer (some ⟨g, 0, none⟩), .slice A n c] w (EvEnd LotAt w g (E ts s) mkOk))
    (hrev : rightB ts = true → ∀ (g : Nat) (s : UInt64) (w : World), RI w A n ts → RLotAt w g s → A.map (·.block) ≠ some g → Calls Try.prog 33 #[.pointer (some ⟨g, 0, none⟩), .slice A n c] w (EvEnd RLotAt w g (E ts s) mkId)) :
    Calls Try.prog 6 #[.int .i64 seed, .slice A n c, .slice B m d] w fun e w' => e = .returned (.bool true) ∧ Below w.heap.size w w' := by
  have hnx : n ≤ 9223372036854775807 := by unfold maxLen at hn; exact hn
  have hmx : m ≤ 9223372036854775807 := by unfold maxLen at hm; exact hm
  have hA : 0 < n → ∀ g, w.heap.size ≤ g → A.map (·.block) ≠ some g := fun h0 g hg e => by
    obtain ⟨b, o, rfl, hb, _⟩ := ht.at_ h0
    simp only [Option.map_some, Option.some.injEq] at e
    omega
  by_cases hbig : 20 < n ∨ 20 < m
  · have hcase : 20 < n ∨ (n ≤ 20 ∧ 20 < m) := by omega
    clear hbig
    rcases hcase with h1 | ⟨h1, h2⟩
    all_goals
      go_enter Try.func6, Try.ntmps6
      go_wp2_with (first
        | ((go_at_call 23; (with_reducible refine (awake44 _).mono ?_); rintro e w1 ⟨rfl, hb1⟩); have hb1s := hb1.size)
        | ((go_at_call 24; (with_reducible refine (event_nil _ _ _ _).mono ?_); rintro e w2 ⟨rfl, hb2⟩); replace hb2 := below_then' (a := w) (B := w.heap.size) (by (repeat' (first | (with_reducible exact Below.refl _ _) | (with_reducible assumption) | (with_reducible refine Below.drew ?_) | (with_reducible refine below_drewN ?_ _) | (with_reducible refine Below.alloc ?_ ?_ _) | (with_reducible refine Below.setCell ?_ ?_ _) | omega | (simp; done) | (simp; omega)))) hb2 (by first | omega | (simp; done) | (simp; omega)); have hb2s := hb2.size)
        | (go_at_call 25; (with_reducible refine (below_none _ _).mono ?_); rintro e w3 ⟨rfl, rfl⟩)
        | ((go_at_call 26; (with_reducible refine (row_nil _ _ _ _).mono ?_); rintro e w4 ⟨rfl, hb4⟩); replace hb4 := below_then' (a := w) (B := w.heap.size) (by (repeat' (first | (with_reducible exact Below.refl _ _) | (with_reducible assumption) | (with_reducible refine Below.drew ?_) | (with_reducible refine below_drewN ?_ _) | (with_reducible refine Below.alloc ?_ ?_ _) | (with_reducible refine Below.setCell ?_ ?_ _) | omega | (simp; done) | (simp; omega)))) hb4 (by first | omega | (simp; done) | (simp; omega)); have hb4s := hb4.size)
        | fail "no arm")
      go_ret
      exact ⟨rfl, hb4⟩
  have hn20 : n ≤ 20 := by omega
  have hm20 : m ≤ 20 := by omega
  clear hbig
  go_enter Try.func6, Try.ntmps6
  go_wp2_with (first
    | ((go_at_call 23; (with_reducible refine (awake44 _).mono ?_); rintro e w1 ⟨rfl, hb1⟩); have hb1s := hb1.size)
    | ((go_at_call 24; (with_reducible refine (event_nil _ _ _ _).mono ?_); rintro e w2 ⟨rfl, hb2⟩); replace hb2 := below_then' (a := w) (B := w.heap.size) (by (repeat' (first | (with_reducible exact Below.refl _ _) | (with_reducible assumption) | (with_reducible refine Below.drew ?_) | (with_reducible refine below_drewN ?_ _) | (with_reducible refine Below.alloc ?_ ?_ _) | (with_reducible refine Below.setCell ?_ ?_ _) | omega | (simp; done) | (simp; omega)))) hb2 (by first | omega | (simp; done) | (simp; omega)); have hb2s := hb2.size)
    | (go_at_call 25; (with_reducible refine (below_none _ _).mono ?_); rintro e w3 ⟨rfl, rfl⟩)
    | ((go_at_call 26; (with_reducible refine (row_nil _ _ _ _).mono ?_); rintro e w4 ⟨rfl, hb4⟩); replace hb4 := below_then' (a := w) (B := w.heap.size) (by (repeat' (first | (with_reducible exact Below.refl _ _) | (with_reducible assumption) | (with_reducible refine Below.drew ?_) | (with_reducible refine below_drewN ?_ _) | (with_reducible refine Below.alloc ?_ ?_ _) | (with_reducible refine Below.setCell ?_ ?_ _) | omega | (simp; done) | (simp; omega)))) hb4 (by first | omega | (simp; done) | (simp; omega)); have hb4s := hb4.size)
    | ((go_at_call 27; (with_reducible refine (hnew _).mono ?_); rintro e w5 ⟨rfl, hl5, hb5, hs5⟩); have hlt5 := hl5.lt; clear hs5; replace hb5 := below_then' (a := w) (B := w.heap.size) (by (repeat' (first | (with_reducible exact Below.refl _ _) | (with_reducible assumption) | (with_reducible refine Below.drew ?_) | (with_reducible refine below_drewN ?_ _) | (with_reducible refine Below.alloc ?_ ?_ _) | (with_reducible refine Below.setCell ?_ ?_ _) | omega | (simp; done) | (simp; omega)))) hb5 (by first | omega | (simp; done) | (simp; omega)); have hb5s := hb5.size; have hl5a := hl5.alloc (.cells #[.int .i64 seed] 59))
    | fail "no arm")
  have hb5s := hb5.size
  have hr5 : RLotAt (w5.alloc (.cells #[.int .i64 seed] 59)) w5.heap.size s0 := Blk.top _ rfl (by rw [hsg])
  have hb5a : Below w.heap.size w (w5.alloc (.cells #[.int .i64 seed] 59)) := (by (repeat' (first | (with_reducible exact Below.refl _ _) | (with_reducible assumption) | (with_reducible refine Below.drew ?_) | (with_reducible refine below_drewN ?_ _) | (with_reducible refine Below.alloc ?_ ?_ _) | (with_reducible refine Below.setCell ?_ ?_ _) | omega | (simp; done) | (simp; omega))))
  generalize hg4 : w4.heap.size = g at *
  generalize hg5 : w5.heap.size = gl at *
  have hgl : g ≠ gl := by omega
  have Hg4 := Lib.hid hg4
  have Hg5 := Lib.hid hg5
  have hwg : w.heap.size ≤ g := by omega
  have hwgl : w.heap.size ≤ gl := by omega
  clear hg4 hg5
  go_loopw [54] (fun i wr => ∃ (k : Nat) (s : UInt64), k ≤ m ∧ i = .int .i64 (k : Nat) ∧ LotAt wr g s ∧ RLotAt wr gl s ∧ Below w.heap.size w wr) (fun i _ => m - (intOf i).toNat)
  case atStart => exact ⟨0, s0, by omega, rfl, hl5a, hr5, hb5a⟩
  case round =>
    clear hl5a hr5 hb5a hl5 hb5 hb5s
    obtain ⟨k, s, hk, rfl, hl6, hr6, hb6⟩ := hrel
    have hb6s := hb6.size
    by_cases hlt : k < m
    · obtain ⟨b, o, rfl, _, hc⟩ := (hl.below hb6 (Nat.le_refl _)).at_ hlt
      have hbx := fun w h => hbelow g s (intAt ls k) w h
      have hrx := fun w h => hrbelow gl s (intAt ls k) w h
      generalize intAt ls k = x at *
      generalize L s x = D at *
      have hne : ((D.2) != (D.2)) = false := by simp
      go_wp2_with (first
        | ((go_at_call 25; (with_reducible refine (hbx _ hl6).mono ?_); rintro e w7 ⟨rfl, hl7, hg7, hs7⟩); have hr7 : RLotAt w7 gl s := RLotAt.keep hr6 (Keep.one hg7) (fun e => hgl e.symm); have hb7 := below_of_only hb6 hg7 hb6s hwg; have hb7s := hb7.size; clear hs7)
        | ((go_at_call 28; (with_reducible refine (hrx _ hr7).mono ?_); rintro e w8 ⟨rfl, hr8, hk8⟩); have hl8 : LotAt w8 g D.1 := LotAt.keep hl7 hk8 hgl; have hb8 : Below w.heap.size w w8 := hb7.trans (hk8.below (fun x e => (by omega)) hb7s))
        | fail "no arm")
      go_roundw
      case rel => exact ⟨k + 1, D.1, by omega, by go_num, hl8, hr8, hb8⟩
      case measure => simp [intOf]; omega
    · have ht6 := ht.below hb6 (Nat.le_refl _)
      cases hrt : rightB ts with
      | false =>
        have hbr := fun w h => row_bad g A n c ts w h hn hrt
        have hbe := fun w h => event_bad g A n c ts w h hn hrt
        have href := fun w h => refright_any A n c ts w h hn
        rw [hrt] at href
        have hzz : EvOk ⟨3, 0, [], []⟩ := .inr (.inr (.inl ⟨rfl, rfl, rfl, rfl⟩))
        clear hrow hrrow hev hrev
        go_wp2_with (first
          | ((go_at_call 26; (with_reducible refine (hbr _ ht6).mono ?_); rintro e w7 ⟨rfl, hb7⟩); have ht7 := ht6.below hb7 (Nat.le_refl _); replace hb7 := below_then' (a := w) (B := w.heap.size) (by (repeat' (first | (with_reducible exact Below.refl _ _) | (with_reducible assumption) | (with_reducible refine Below.drew ?_) | (with_reducible refine below_drewN ?_ _) | (with_reducible refine Below.alloc ?_ ?_ _) | (with_reducible refine Below.setCell ?_ ?_ _) | omega | (simp; done) | (simp; omega)))) hb7 (by first | omega | (simp; done) | (simp; omega)); have hb7s := hb7.size)
          | ((go_at_call 24; (with_reducible refine (hbe _ ht7).mono ?_); rintro e w8 ⟨rfl, hb8⟩); replace hb8 := below_then' (a := w) (B := w.heap.size) (by (repeat' (first | (with_reducible exact Below.refl _ _) | (with_reducible assumption) | (with_reducible refine Below.drew ?_) | (with_reducible refine below_drewN ?_ _) | (with_reducible refine Below.alloc ?_ ?_ _) | (with_reducible refine Below.setCell ?_ ?_ _) | omega | (simp; done) | (simp; omega)))) hb8 (by first | omega | (simp; done) | (simp; omega)); have hb8s := hb8.size; have e1 : EvsRd (((w8.alloc (.cells #[.int .i64 0, .int .i64 0, .slice none 0 0, .slice none 0 0] 51)).alloc (.cells #[.int .i64 0, .int .i64 0, .slice none 0 0, .slice none 0 0] 51)).alloc (.cells #[.int .i64 0, .int .i64 0, .slice none 0 0, .slice none 0 0] 51)) (some ⟨w8.heap.size + 1, 0, none⟩) 1 [⟨0, 0, [], []⟩] := evs_one (t := 51) (x := ⟨0, 0, [], []⟩) (B1 := none) (n1 := 0) (c1 := 0) (B2 := none) (n2 := 0) (c2 := 0) (Blk.alloc (Blk.top _ (by simp) rfl) _) ⟨rfl, Row.nil _ _ _⟩ ⟨rfl, Row.nil _ _ _⟩ (by decide) (by decide); have e2 : EvsRd (((w8.alloc (.cells #[.int .i64 0, .int .i64 0, .slice none 0 0, .slice none 0 0] 51)).alloc (.cells #[.int .i64 0, .int .i64 0, .slice none 0 0, .slice none 0 0] 51)).alloc (.cells #[.int .i64 0, .int .i64 0, .slice none 0 0, .slice none 0 0] 51)) (some ⟨w8.heap.size + 1 + 1, 0, none⟩) 1 [⟨0, 0, [], []⟩] := evs_one (t := 51) (x := ⟨0, 0, [], []⟩) (B1 := none) (n1 := 0) (c1 := 0) (B2 := none) (n2 := 0) (c2 := 0) (Blk.top _ (by simp) rfl) ⟨rfl, Row.nil _ _ _⟩ ⟨rfl, Row.nil _ _ _⟩ (by decide) (by decide))
          | ((go_at_call 30; (with_reducible refine (same39_any _ _ 1 1 1 _ _ e1 e2 (by decide)).mono ?_); rintro e w9 ⟨rfl, q9, rfl⟩))
          | ((go_at_call 29; (with_reducible refine (href _ (ht.below (B := w.heap.size) (by (repeat' (first | (with_reducible exact Below.refl _ _) | (with_reducible assumption) | (with_reducible refine Below.drew ?_) | (with_reducible refine below_drewN ?_ _) | (with_reducible refine Below.alloc ?_ ?_ _) | (with_reducible refine Below.setCell ?_ ?_ _) | omega | (simp; done) | (simp; omega)))) (Nat.le_refl _))).mono ?_); rintro e w9 ⟨rfl, rfl⟩))
          | fail "no arm")
        go_ret
        exact ⟨rfl, (by (repeat' (first | (with_reducible exact Below.refl _ _) | (with_reducible assumption) | (with_reducible refine Below.drew ?_) | (with_reducible refine below_drewN ?_ _) | (with_reducible refine Below.alloc ?_ ?_ _) | (with_reducible refine Below.setCell ?_ ?_ _) | omega | (simp; done) | (simp; omega))))⟩
      | true =>
        obtain ⟨_, hr1, hr8⟩ := rightB_true.1 hrt
        rw [ht.1] at hr1 hr8
        have hAg := hA hr1 g hwg
        have hAl := hA hr1 gl hwgl
        have hrow' := fun w h h' => hrow hrt g s w h h'
        have hrrow' := fun w h h' => hrrow hrt gl s w h h' hAl
        have hev' := fun w h h' => hev hrt g (RR ts s).1 w h h'
        have hrev' := fun w h h' => hrev hrt gl (RR ts s).1 w h h' hAl
        have href := fun w h => refright_any A n c ts w h hn
        rw [hrt] at href
        have hints : ∀ (B B' : Option Addr) (c c' : Nat) (w : World), RI w B n (RR ts s).2 → RI w B' n (RR ts s).2 → Calls Try.prog 31 #[.slice B n c, .slice B' n c'] w fun e w' => e = .returned (.bool true) ∧ ∃ q, w' = w.drewN q := fun B B' c c' w h h' => (ints_any B B' n n c c' _ _ w h h' hn).mono fun e w' ⟨h1, h2⟩ => ⟨by simpa using h1, h2⟩
        generalize hX : E ts (RR ts s).1 = X at *
        replace hX := Lib.hid hX
        go_wp2_with (first
          | ((go_at_call 26; (with_reducible refine (hrow' _ ht6 hl6).mono ?_); rintro e w7 ⟨B7, d7, rfl, o7, hl7, hk7⟩); have hr7 : RLotAt w7 gl s := RLotAt.keep hr6 hk7 (fun e => hgl e.symm); have hb7 : Below w.heap.size w w7 := hb6.trans (hk7.below (fun x e => (by omega)) hb6s); have hb7s := hb7.size; have ht7 := ht.below hb7 (Nat.le_refl _))
          | ((go_at_call 24; (with_reducible refine (hev' _ ht7 hl7).mono ?_); rintro e w8 ⟨B8, n8, d8, C8, m8, f8, rfl, o8, p8, hl8, hk8⟩); have hr8 : RLotAt w8 gl s := RLotAt.keep hr7 hk8 (fun e => hgl e.symm); have hb8 : Below w.heap.size w w8 := hb7.trans (hk8.below (fun x e => (by omega)) hb7s); have hb8s := hb8.size; have ht8 := ht.below hb8 (Nat.le_refl _); have o7a := o7.keep hk8 (fun b e e2 => (by have := (o7.ne_ hl7 (by decide)); exact this (by rw [e, e2]))))
          | ((go_at_call 29; (with_reducible refine (href _ (ht.below (B := w.heap.size) (by (repeat' (first | (with_reducible exact Below.refl _ _) | (with_reducible assumption) | (with_reducible refine Below.drew ?_) | (with_reducible refine below_drewN ?_ _) | (with_reducible refine Below.alloc ?_ ?_ _) | (with_reducible refine Below.setCell ?_ ?_ _) | omega | (simp; done) | (simp; omega)))) (Nat.le_refl _))).mono ?_); rintro e w9 ⟨rfl, rfl⟩))
          | ((go_at_call 32; (with_reducible refine (hrrow' _ (ht.below (B := w.heap.size) (by (repeat' (first | (with_reducible exact Below.refl _ _) | (with_reducible assumption) | (with_reducible refine Below.drew ?_) | (with_reducible refine below_drewN ?_ _) | (with_reducible refine Below.alloc ?_ ?_ _) | (with_reducible refine Below.setCell ?_ ?_ _) | omega | (simp; done) | (simp; omega)))) (Nat.le_refl _)) (RLotAt.alloc hr8 _)).mono ?_); rintro e w10 ⟨B10, d10, rfl, o10, hr10, hk10⟩); have K10 : Keep (· = gl) w8 w10 := (((Keep.refl _ _).alloc _).trans hk10 (fun _ _ e => e)); have o7b := o7a.keep K10 (fun b e e2 => (by have := (o7a.ne_ hr8 (by decide)); exact this (by rw [e, e2]))); have o8b := o8.keep K10 (fun b e e2 => (by have := (o8.ne_ hr8 (by decide)); exact this (by rw [e, e2]))); have p8b := p8.keep K10 (fun b e e2 => (by have := (p8.ne_ hr8 (by decide)); exact this (by rw [e, e2]))); have hl10 := hl8.keep K10 hgl; have hlt8 := hr8.lt; have hx10 := Blk.keep (F := (· = gl)) (w' := w10) (g := w8.heap.size) (t := 51) (cs := [.int .i64 X.2.kind, .int .i64 X.2.num, .slice B8 n8 d8, .slice C8 m8 f8]) (by (repeat' (first | (with_reducible assumption) | (with_reducible refine Blk.top _ (by first | rfl | omega | (simp; done) | (simp; omega)) rfl) | (with_reducible refine Blk.alloc ?_ _) | (with_reducible refine Blk.drew ?_) | (with_reducible refine Blk.drewN ?_ _) | (with_reducible refine Blk.far ?_ (by first | omega | (simp; done) | (simp; omega)) _)))) hk10 (by omega); have hb10 : Below w.heap.size w w10 := hb8.trans (K10.below (fun x e => (by omega)) hb8s); have hb10s := hb10.size; have hxl10 := hx10.lt)
          | ((go_at_call 31; (with_reducible refine (hints _ _ _ _ _ o7b.rd.ri o10.rd.ri).mono ?_); rintro e w11 ⟨rfl, q11, rfl⟩))
          | fail "no arm")
        have hb10d : Below w.heap.size w (w10.drewN q11) := (by (repeat' (first | (with_reducible exact Below.refl _ _) | (with_reducible assumption) | (with_reducible refine Below.drew ?_) | (with_reducible refine below_drewN ?_ _) | (with_reducible refine Below.alloc ?_ ?_ _) | (with_reducible refine Below.setCell ?_ ?_ _) | omega | (simp; done) | (simp; omega))))
        have hX' := hX.out
        generalize hx8 : w8.heap.size = gx at *
        refine code_world (fun W => RLotAt W gl (RR ts s).1 ∧ LotAt W g X.1 ∧ Ow iv W w7.heap.size 3 B8 n8 d8 X.2.row ∧ OB W w7.heap.size 5 C8 m8 f8 X.2.ch ∧ Blk W gx 51 [.int .i64 X.2.kind, .int .i64 X.2.num, .slice B8 n8 d8, .slice C8 m8 f8] ∧ Below w.heap.size w W) ⟨hr10, hl10, o8b, p8b, hx10, hb10d⟩ ?_
        clear hr10 hl10 o8b p8b hx10 hb10d hb10 hb10s o7b o10 o7a o8 p8 hl8 hr8 hk8 hk10 K10 hl7 hr7 hk7 o7 hxl10 hlt8 hl6 hr6 hb6 hb6s ht6 ht7 ht8 hb8 hb7 hb8s hrow' hev' hrow hrrow hev hrrow' hints href hnew hb1 hb2 hb4 hb1s hb2s hlt5 hx8
        intro W ⟨hr, hl', o, pp, hx, hb⟩
        have hbs := hb.size
        clear hX'
        have hbx := fun w h => hbelow g X.1 1000 w h
        have hrx := fun w h => hrbelow gl X.1 1000 w h
        generalize L X.1 1000 = D at *
        have nBl := o.ne_ hr (by decide)
        have nCl := pp.ne_ hr (by decide)
        have nxl : gx ≠ gl := hx.ne_ hr (by decide)
        have nxg : gx ≠ g := hx.ne_ hl' (by decide)
        have hlx := hx.lt
        have hgW : ¬ (W.heap.size = gl) := by have := hr.lt; omega
        have mB := o.cap
        have mC := pp.cap
        have hW0 : Blk W.drew gx 51 [.int .i64 X.2.kind, .int .i64 X.2.num, .slice B8 n8 d8, .slice C8 m8 f8] := hx
        go_region_held3 (fun w' => w'.cell? ⟨gx, 0, none⟩ = some (.int .i64 X.2.kind) ∧ w'.cell? ⟨gx, 1, none⟩ = some (.int .i64 X.2.num) ∧ w'.cell? ⟨gx, 2, none⟩ = some (.slice B8 n8 d8) ∧ w'.cell? ⟨gx, 3, none⟩ = some (.slice C8 m8 f8)) (exact blk4 (t := 51) (by (repeat' (first | (with_reducible assumption) | (with_reducible refine Blk.top _ (by first | rfl | omega | (simp; done) | (simp; omega)) rfl) | (with_reducible refine Blk.alloc ?_ _) | (with_reducible refine Blk.drew ?_) | (with_reducible refine Blk.drewN ?_ _) | (with_reducible refine Blk.far ?_ (by first | omega | (simp; done) | (simp; omega)) _))))) (first
          | ((go_at_call 33; (with_reducible refine (hrev' _ (ht.below (B := w.heap.size) (by (repeat' (first | (with_reducible exact Below.refl _ _) | (with_reducible assumption) | (with_reducible refine Below.drew ?_) | (with_reducible refine below_drewN ?_ _) | (with_reducible refine Below.alloc ?_ ?_ _) | (with_reducible refine Below.setCell ?_ ?_ _) | omega | (simp; done) | (simp; omega)))) (Nat.le_refl _)) (by (repeat' (first | (with_reducible assumption) | (with_reducible refine RLotAt.drew ?_) | (with_reducible refine RLotAt.drewN ?_ _) | (with_reducible refine RLotAt.alloc ?_ _) | (with_reducible refine LotAt.drew ?_) | (with_reducible refine LotAt.drewN ?_ _) | (with_reducible refine LotAt.alloc ?_ _))))).mono ?_); rintro e w11 ⟨B11, n11, d11, C11, m11, f11, rfl, o11, p11, hr11, hk11⟩); have k11 : Keep (· = gl) W w11 := (by first | exact Keep.of_drew hk11 | exact (((Keep.refl _ _).alloc _).trans (Keep.of_drew hk11) (fun _ _ e => e)) | exact Keep.of_drew (((Keep.refl _ _).alloc _).trans hk11 (fun _ _ e => e))); have hx11 := hx.keep k11 nxl; have hl11 := LotAt.keep hl' k11 hgl; have oo11 := o.keep k11 (fun b e e2 => nBl (by rw [e, e2])); have pp11 := pp.keep k11 (fun b e e2 => nCl (by rw [e, e2])); have hb11 : Below w.heap.size w w11 := hb.trans (k11.below (fun x e => (by omega)) hbs); have hb11s := hb11.size; have mB11 := o11.cap; have mC11 := p11.cap; (try (have hq11 : Blk w11 W.heap.size 51 [.int .i64 X.2.kind, .int .i64 X.2.num, .slice B8 n8 d8, .slice C8 m8 f8] := Blk.keep (F := (· = gl)) (Blk.drew (Blk.top _ rfl rfl)) hk11 hgW)))
          | ((go_at_call 30; (with_reducible refine (same39_any _ _ 1 1 1 [X.2] _ (evs_one (t := 51) (B1 := B8) (n1 := n8) (c1 := d8) (B2 := C8) (n2 := m8) (c2 := f8) (by (repeat' (first | (with_reducible assumption) | (with_reducible refine Blk.top _ (by first | rfl | omega | (simp; done) | (simp; omega)) rfl) | (with_reducible refine Blk.alloc ?_ _) | (with_reducible refine Blk.drew ?_) | (with_reducible refine Blk.drewN ?_ _) | (with_reducible refine Blk.far ?_ (by first | omega | (simp; done) | (simp; omega)) _)))) (oo11.rd.ri.below (B := w11.heap.size) (by (repeat' (first | (with_reducible exact Below.refl _ _) | (with_reducible assumption) | (with_reducible refine Below.drew ?_) | (with_reducible refine below_drewN ?_ _) | (with_reducible refine Below.alloc ?_ ?_ _) | (with_reducible refine Below.setCell ?_ ?_ _) | omega | (simp; done) | (simp; omega)))) (Nat.le_refl _)) (pp11.rd.rb.below (B := w11.heap.size) (by (repeat' (first | (with_reducible exact Below.refl _ _) | (with_reducible assumption) | (with_reducible refine Below.drew ?_) | (with_reducible refine below_drewN ?_ _) | (with_reducible refine Below.alloc ?_ ?_ _) | (with_reducible refine Below.setCell ?_ ?_ _) | omega | (simp; done) | (simp; omega)))) (Nat.le_refl _)) (by omega) (by omega)) (evs_one (t := 51) (B1 := B11) (n1 := n11) (c1 := d11) (B2 := C11) (n2 := m11) (c2 := f11) (by (repeat' (first | (with_reducible assumption) | (with_reducible refine Blk.top _ (by first | rfl | omega | (simp; done) | (simp; omega)) rfl) | (with_reducible refine Blk.alloc ?_ _) | (with_reducible refine Blk.drew ?_) | (with_reducible refine Blk.drewN ?_ _) | (with_reducible refine Blk.far ?_ (by first | omega | (simp; done) | (simp; omega)) _)))) (o11.rd.ri.below (B := w11.heap.size) (by (repeat' (first | (with_reducible exact Below.refl _ _) | (with_reducible assumption) | (with_reducible refine Below.drew ?_) | (with_reducible refine below_drewN ?_ _) | (with_reducible refine Below.alloc ?_ ?_ _) | (with_reducible refine Below.setCell ?_ ?_ _) | omega | (simp; done) | (simp; omega)))) (Nat.le_refl _)) (p11.rd.rb.below (B := w11.heap.size) (by (repeat' (first | (with_reducible exact Below.refl _ _) | (with_reducible assumption) | (with_reducible refine Below.drew ?_) | (with_reducible refine below_drewN ?_ _) | (with_reducible refine Below.alloc ?_ ?_ _) | (with_reducible refine Below.setCell ?_ ?_ _) | omega | (simp; done) | (simp; omega)))) (Nat.le_refl _)) (by omega) (by omega)) (by decide)).mono ?_); rintro e w12 ⟨rfl, q12, rfl⟩))
          | ((go_at_call 25; (with_reducible refine (hbx _ (by (repeat' (first | (with_reducible assumption) | (with_reducible refine RLotAt.drew ?_) | (with_reducible refine RLotAt.drewN ?_ _) | (with_reducible refine RLotAt.alloc ?_ _) | (with_reducible refine LotAt.drew ?_) | (with_reducible refine LotAt.drewN ?_ _) | (with_reducible refine LotAt.alloc ?_ _))))).mono ?_); rintro e w13 ⟨rfl, hl13, hg13, hs13⟩); have hr13 : RLotAt w13 gl X.1 := RLotAt.keep (by (repeat' (first | (with_reducible assumption) | (with_reducible refine RLotAt.drew ?_) | (with_reducible refine RLotAt.drewN ?_ _) | (with_reducible refine RLotAt.alloc ?_ _) | (with_reducible refine LotAt.drew ?_) | (with_reducible refine LotAt.drewN ?_ _) | (with_reducible refine LotAt.alloc ?_ _)))) (Keep.one hg13) (fun e => hgl e.symm); have hx13 : Blk w13 gx 51 [.int .i64 X.2.kind, .int .i64 X.2.num, .slice B8 n8 d8, .slice C8 m8 f8] := Blk.keep (by (repeat' (first | (with_reducible assumption) | (with_reducible refine Blk.top _ (by first | rfl | omega | (simp; done) | (simp; omega)) rfl) | (with_reducible refine Blk.alloc ?_ _) | (with_reducible refine Blk.drew ?_) | (with_reducible refine Blk.drewN ?_ _) | (with_reducible refine Blk.far ?_ (by first | omega | (simp; done) | (simp; omega)) _)))) (Keep.one hg13) nxg; have hb13 : Below w.heap.size w w13 := below_of_only (g := g) (by (repeat' (first | (with_reducible exact Below.refl _ _) | (with_reducible assumption) | (with_reducible refine Below.drew ?_) | (with_reducible refine below_drewN ?_ _) | (with_reducible refine Below.alloc ?_ ?_ _) | (with_reducible refine Below.setCell ?_ ?_ _) | omega | (simp; done) | (simp; omega)))) hg13 (by first | omega | (simp; omega)) hwg; have hb13s := hb13.size; clear hs13)
          | ((go_at_call 28; (with_reducible refine (hrx _ hr13).mono ?_); rintro e w14 ⟨rfl, hr14, hk14⟩); have hx14 := hx13.keep hk14 nxl; have hb14 : Below w.heap.size w w14 := hb13.trans (hk14.below (fun x e => (by omega)) hb13s))
          | fail "no arm")
        all_goals
          go_wp2
          go_ret
          exact ⟨rfl, hb14⟩

theorem walk (w : World) (seed : Int) (ws0 : (Lit.int .i64 seed).wf = true) (A : Option Addr) (n c : Nat) (ts : List Int) (ht : RI w A n ts) (hnc : n ≤ c) (hc : c ≤ maxLen) (wt : ∀ z ∈ ts, -9223372036854775808 ≤ z ∧ z ≤ 9223372036854775807) (B : Option Addr) (m d : Nat) (ls : List Int) (hl : RI w B m ls) (hmd : m ≤ d) (hd : d ≤ maxLen) (wl : ∀ z ∈ ls, -9223372036854775808 ≤ z ∧ z ≤ 9223372036854775807) :
    Calls Try.prog 6 #[.int .i64 seed, .slice A n c, .slice B m d] w fun e w' => e = .returned (.bool true) ∧ Below w.heap.size w w' := by
  have ws := bounds_i64 ws0
  exact walk_gen lotB rowD evD (UInt64.ofNat (un seed)) seed A n c ts B m d ls w ht (by omega) hl (by omega)
    (by rw [UInt64.toNat_ofNat_of_lt' (by have := un_lt seed; simp [UInt64.size]; omega)]; exact sg_un ws.1 ws.2)
    (fun w => newlot_any seed w) (fun g s k w h => below_any g s k w h) (fun g s k w h => refbelow_any g s k w h)
    (fun hr g s w h h' => row_any g s A n c ts w h (by omega) h' hr) (fun hr g s w h h' h9 => refrow_any g s A n c ts w h h' hr h9)
    (fun hr g s w h h' => event_any g s A n c ts w h (by omega) h' hr) (fun hr g s w h h' h9 => refevent_any g s A n c ts w h h' hr h9)

--FRAME tompionlaw44 LotDraws lotDraws walk i64 ints ints
theorem own : ownKnob Try.prog.godebug = none := by kernel_rfl
theorem laidOut : laidOutB Try.prog = true := by kernel_rfl

set_option maxRecDepth 100000 in
theorem lifted (os : Os) (started : os.Started) (H : Type) (enc : TypeId × Value → H) :
    ReturnsInHanded {} Try.checked os 6 .any (Rows.lotDrawsSpec.pre6 enc Try.prog Try.f6 Rows.lotDrawsRow.domain false) (Rows.lotDrawsSpec.post enc Try.prog Try.f6 false true false false) := by
  refine returnsInHanded_of_change (C := Try.checked) own started (by kernel_rfl) Try.func6
    (ChangeSpec.witness6 (enc := enc) (C := Try.checked) false ⟨#[], #[.int .i64 0, .slice none 0 0, .slice none 0 0], []⟩ 8 (by kernel_rfl) (by kernel_rfl) (by kernel_rfl) (by kernel_rfl)) ?_
  intro W base args ds gs before hval0 hW hcnd _
  have hval : ∀ (j : Nat) t v, Try.f6.params[j]? = some t → args[j]? = some v → Value.okWide Try.prog W .any base t v := hval0
  have hW' := hW
  obtain ⟨p, q, hA0, hV, rfl, hfz, hnd⟩ := hW
  have hA : DataW.TrodAll enc Try.prog W 0 (fun _ => true) true Try.f6.params.toList args.toList ds p := hA0
  rw [Try.params6] at hA hval
  obtain ⟨v0, vs0, d0, ds0, p0, q0, hargs, rfl, rfl, h0, rr0⟩ := trodAll_cons hA
  obtain ⟨v1, vs1, d1, ds1, p1, q1, rfl, rfl, rfl, h1, rr1⟩ := trodAll_cons rr0
  obtain ⟨v2, vs2, d2, ds2, p2, q2, rfl, rfl, rfl, h2, rr2⟩ := trodAll_cons rr1
  obtain ⟨rfl, rfl, rfl⟩ := trodAll_nil rr2
  obtain rfl : args = #[v0, v1, v2] := by cases args; simp_all
  obtain ⟨rfl, rfl⟩ := trodVars_none hV
  have k0 := h0
  have lt0 : ∀ x ∈ p0, x.block < W.heap.size := by obtain ⟨m, hm⟩ := k0; exact DataW.trod_lt m _ _ _ hm
  obtain ⟨a0, rfl, wf0⟩ := args_int Try.underlying3 (hval 0 3 v0 rfl rfl) h0
  have k1 := h1
  have lt1 : ∀ x ∈ p1, x.block < W.heap.size := by obtain ⟨m, hm⟩ := k1; exact DataW.trod_lt m _ _ _ hm
  obtain ⟨A1, n1, c1, l1, rfl, r1, nc1, cm1, wf1⟩ := args_ints Try.underlying22 Try.underlying3 (by kernel_rfl) (hval 1 22 v1 rfl rfl) h1
  have k2 := h2
  have lt2 : ∀ x ∈ p2, x.block < W.heap.size := by obtain ⟨m, hm⟩ := k2; exact DataW.trod_lt m _ _ _ hm
  obtain ⟨A2, n2, c2, l2, rfl, r2, nc2, cm2, wf2⟩ := args_ints Try.underlying22 Try.underlying3 (by kernel_rfl) (hval 2 22 v2 rfl rfl) h2
  clear hA0 hval0
  refine (walk W a0 wf0 A1 n1 c1 l1 r1 nc1 cm1 wf1 A2 n2 c2 l2 r2 nc2 cm2 wf2).mono fun e W' ⟨he, bel⟩ => ?_
  subst he
  exact ⟨_, rfl, _, _, _, [], _, [], hW', trodAll_mk1 (shut_bool Try.underlying4 _), (trodAll_cons_mk (Below.trod laidOut (by kernel_rfl) (of_decide_eq_true (by kernel_rfl)) k0 bel lt0) (trodAll_cons_mk (Below.trod laidOut (by kernel_rfl) (of_decide_eq_true (by kernel_rfl)) k1 bel lt1) (trodAll_cons_mk (Below.trod laidOut (by kernel_rfl) (of_decide_eq_true (by kernel_rfl)) k2 bel lt2) trodAll_mk0))), rfl, bel.frame _, fun h => by cases h⟩

theorem over : Rows.lotDrawsRow.holds Try.pinned (OpenSpec.ofChange Rows.lotDrawsSpec) :=
  OpenClaim.holds_of_wide 6 Try.f6 rfl rfl rfl rfl rfl rfl rfl ⟨rfl, rfl, rfl, rfl, rfl⟩ rfl rfl rfl rfl rfl (by kernel_rfl) Try.func6 (by kernel_rfl)
    (of_decide_eq_true (by kernel_rfl)) (by unfold Func.isWrapper; first | (rw [if_pos (by decide +kernel)]; kernel_rfl) | (rw [if_neg (by decide +kernel)]; exact ⟨rfl, rfl⟩))
    (fun os started H enc _ => lifted os started H enc)

theorem proved : Rows.LotDrawsSaid := over
--ENDFRAME
end Go.Proofs.Ytkhihgilodhjfaa.lotDraws
