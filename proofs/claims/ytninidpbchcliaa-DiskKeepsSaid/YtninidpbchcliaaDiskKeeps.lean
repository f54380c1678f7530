/- DiskKeeps: what was flushed is kept, whatever comes, but in sectors that are written behind it. -/
import Derived.Test.YtninidpbchcliaaDiskL
namespace Go.Proofs.Ytninidpbchcliaa.diskKeeps
open Go.ChangeShapes Go.WideShapes Go.ChangeAt Go.RowKit
set_option linter.unusedVariables false
set_option linter.unusedSimpArgs false

theorem walk_big (A B C : Option Addr) (n m k c d f : Nat) (l1 l2 : List DoV) (w : World) (h1 : DosRd w A n l1) (h2 : DosRd w B m l2) (hn : n ≤ maxLen) (hm : m ≤ maxLen) (hk : k ≤ maxLen) (h : ¬ (few6B l1 = true ∧ few6B l2 = true ∧ k ≤ 100)) :
    Calls Try.prog 3 #[.slice A n c, .slice B m d, .slice C k f] w fun e w' => e = .returned (.bool true) ∧ Below w.heap.size w w' := by
  have hf1 := fun w h => few6_any A n c l1 w h hn
  have hf2 := fun w h => few6_any B m d l2 w h hm
  unfold maxLen at hk
  cases q1 : few6B l1 with
  | false =>
    rw [q1] at hf1
    clear h q1 hf2
    go_enter Try.func3, Try.ntmps3
    go_wp2_with (first
      | ((go_at_call 15; (with_reducible refine (awake6 _).mono ?_); rintro e w1 ⟨rfl, hb1⟩); replace hb1 := below_then' (a := w) (B := w.heap.size) (by (repeat' (first | (with_reducible exact Below.refl _ _) | (with_reducible assumption) | (with_reducible refine Below.drew ?_) | (with_reducible refine below_drewN ?_ _) | (with_reducible refine Below.alloc ?_ ?_ _) | (with_reducible refine Below.setCell ?_ ?_ _) | omega | (simp; done) | (simp; omega)))) hb1 (by first | omega | (simp; done) | (simp; omega)); have hb1s := hb1.size)
      | ((go_at_call 16; (with_reducible refine (hf1 _ (h1.below (B0 := w.heap.size) (by (repeat' (first | (with_reducible exact Below.refl _ _) | (with_reducible assumption) | (with_reducible refine Below.drew ?_) | (with_reducible refine below_drewN ?_ _) | (with_reducible refine Below.alloc ?_ ?_ _) | (with_reducible refine Below.setCell ?_ ?_ _) | omega | (simp; done) | (simp; omega)))) (Nat.le_refl _))).mono ?_); rintro e w2 ⟨rfl, hb2⟩); replace hb2 := below_then' (a := w) (B := w.heap.size) (by (repeat' (first | (with_reducible exact Below.refl _ _) | (with_reducible assumption) | (with_reducible refine Below.drew ?_) | (with_reducible refine below_drewN ?_ _) | (with_reducible refine Below.alloc ?_ ?_ _) | (with_reducible refine Below.setCell ?_ ?_ _) | omega | (simp; done) | (simp; omega)))) hb2 (by first | omega | (simp; done) | (simp; omega)); have hb2s := hb2.size)
      | fail "no arm")
    go_ret
    exact ⟨rfl, (by (repeat' (first | (with_reducible exact Below.refl _ _) | (with_reducible assumption) | (with_reducible refine Below.drew ?_) | (with_reducible refine below_drewN ?_ _) | (with_reducible refine Below.alloc ?_ ?_ _) | (with_reducible refine Below.setCell ?_ ?_ _) | omega | (simp; done) | (simp; omega))))⟩
  | true =>
    rw [q1] at hf1
    cases q2 : few6B l2 with
    | false =>
      rw [q2] at hf2
      clear h q1 q2
      go_enter Try.func3, Try.ntmps3
      go_wp2_with (first
        | ((go_at_call 15; (with_reducible refine (awake6 _).mono ?_); rintro e w1 ⟨rfl, hb1⟩); replace hb1 := below_then' (a := w) (B := w.heap.size) (by (repeat' (first | (with_reducible exact Below.refl _ _) | (with_reducible assumption) | (with_reducible refine Below.drew ?_) | (with_reducible refine below_drewN ?_ _) | (with_reducible refine Below.alloc ?_ ?_ _) | (with_reducible refine Below.setCell ?_ ?_ _) | omega | (simp; done) | (simp; omega)))) hb1 (by first | omega | (simp; done) | (simp; omega)); have hb1s := hb1.size)
        | ((go_at_call 16; (with_reducible refine (hf1 _ (h1.below (B0 := w.heap.size) (by (repeat' (first | (with_reducible exact Below.refl _ _) | (with_reducible assumption) | (with_reducible refine Below.drew ?_) | (with_reducible refine below_drewN ?_ _) | (with_reducible refine Below.alloc ?_ ?_ _) | (with_reducible refine Below.setCell ?_ ?_ _) | omega | (simp; done) | (simp; omega)))) (Nat.le_refl _))).mono ?_); rintro e w2 ⟨rfl, hb2⟩); replace hb2 := below_then' (a := w) (B := w.heap.size) (by (repeat' (first | (with_reducible exact Below.refl _ _) | (with_reducible assumption) | (with_reducible refine Below.drew ?_) | (with_reducible refine below_drewN ?_ _) | (with_reducible refine Below.alloc ?_ ?_ _) | (with_reducible refine Below.setCell ?_ ?_ _) | omega | (simp; done) | (simp; omega)))) hb2 (by first | omega | (simp; done) | (simp; omega)); have hb2s := hb2.size)
        | ((go_at_call 16; (with_reducible refine (hf2 _ (h2.below (B0 := w.heap.size) (by (repeat' (first | (with_reducible exact Below.refl _ _) | (with_reducible assumption) | (with_reducible refine Below.drew ?_) | (with_reducible refine below_drewN ?_ _) | (with_reducible refine Below.alloc ?_ ?_ _) | (with_reducible refine Below.setCell ?_ ?_ _) | omega | (simp; done) | (simp; omega)))) (Nat.le_refl _))).mono ?_); rintro e w3 ⟨rfl, hb3⟩); replace hb3 := below_then' (a := w) (B := w.heap.size) (by (repeat' (first | (with_reducible exact Below.refl _ _) | (with_reducible assumption) | (with_reducible refine Below.drew ?_) | (with_reducible refine below_drewN ?_ _) | (with_reducible refine Below.alloc ?_ ?_ _) | (with_reducible refine Below.setCell ?_ ?_ _) | omega | (simp; done) | (simp; omega)))) hb3 (by first | omega | (simp; done) | (simp; omega)); have hb3s := hb3.size)
        | fail "no arm")
      go_ret
      exact ⟨rfl, (by (repeat' (first | (with_reducible exact Below.refl _ _) | (with_reducible assumption) | (with_reducible refine Below.drew ?_) | (with_reducible refine below_drewN ?_ _) | (with_reducible refine Below.alloc ?_ ?_ _) | (with_reducible refine Below.setCell ?_ ?_ _) | omega | (simp; done) | (simp; omega))))⟩
    | true =>
      rw [q2] at hf2
      have hk2 : 100 < k := Nat.lt_of_not_le (fun q => h ⟨q1, q2, q⟩)
      clear h q1 q2
      go_enter Try.func3, Try.ntmps3
      go_wp2_with (first
        | ((go_at_call 15; (with_reducible refine (awake6 _).mono ?_); rintro e w1 ⟨rfl, hb1⟩); replace hb1 := below_then' (a := w) (B := w.heap.size) (by (repeat' (first | (with_reducible exact Below.refl _ _) | (with_reducible assumption) | (with_reducible refine Below.drew ?_) | (with_reducible refine below_drewN ?_ _) | (with_reducible refine Below.alloc ?_ ?_ _) | (with_reducible refine Below.setCell ?_ ?_ _) | omega | (simp; done) | (simp; omega)))) hb1 (by first | omega | (simp; done) | (simp; omega)); have hb1s := hb1.size)
        | ((go_at_call 16; (with_reducible refine (hf1 _ (h1.below (B0 := w.heap.size) (by (repeat' (first | (with_reducible exact Below.refl _ _) | (with_reducible assumption) | (with_reducible refine Below.drew ?_) | (with_reducible refine below_drewN ?_ _) | (with_reducible refine Below.alloc ?_ ?_ _) | (with_reducible refine Below.setCell ?_ ?_ _) | omega | (simp; done) | (simp; omega)))) (Nat.le_refl _))).mono ?_); rintro e w2 ⟨rfl, hb2⟩); replace hb2 := below_then' (a := w) (B := w.heap.size) (by (repeat' (first | (with_reducible exact Below.refl _ _) | (with_reducible assumption) | (with_reducible refine Below.drew ?_) | (with_reducible refine below_drewN ?_ _) | (with_reducible refine Below.alloc ?_ ?_ _) | (with_reducible refine Below.setCell ?_ ?_ _) | omega | (simp; done) | (simp; omega)))) hb2 (by first | omega | (simp; done) | (simp; omega)); have hb2s := hb2.size)
        | ((go_at_call 16; (with_reducible refine (hf2 _ (h2.below (B0 := w.heap.size) (by (repeat' (first | (with_reducible exact Below.refl _ _) | (with_reducible assumption) | (with_reducible refine Below.drew ?_) | (with_reducible refine below_drewN ?_ _) | (with_reducible refine Below.alloc ?_ ?_ _) | (with_reducible refine Below.setCell ?_ ?_ _) | omega | (simp; done) | (simp; omega)))) (Nat.le_refl _))).mono ?_); rintro e w3 ⟨rfl, hb3⟩); replace hb3 := below_then' (a := w) (B := w.heap.size) (by (repeat' (first | (with_reducible exact Below.refl _ _) | (with_reducible assumption) | (with_reducible refine Below.drew ?_) | (with_reducible refine below_drewN ?_ _) | (with_reducible refine Below.alloc ?_ ?_ _) | (with_reducible refine Below.setCell ?_ ?_ _) | omega | (simp; done) | (simp; omega)))) hb3 (by first | omega | (simp; done) | (simp; omega)); have hb3s := hb3.size)
        | fail "no arm")
      go_ret
      exact ⟨rfl, (by (repeat' (first | (with_reducible exact Below.refl _ _) | (with_reducible assumption) | (with_reducible refine Below.drew ?_) | (with_reducible refine below_drewN ?_ _) | (with_reducible refine Below.alloc ?_ ?_ _) | (with_reducible refine Below.setCell ?_ ?_ _) | omega | (simp; done) | (simp; omega))))⟩
def z1024 : List UInt8 := List.replicate 1024 0
theorem zero1024 : (Try.prog.info? 36).map (fun i => (i.zero, i.size)) = some (some (aggB z1024), 1024) := by kernel_rfl
/-- The first k sectors, and noughts. -/
def wasK (l : List UInt8) (k : Nat) : List UInt8 := l.take (k * 128) ++ List.replicate (1024 - k * 128) 0
theorem wasK_zero (l : List UInt8) : wasK l 0 = z1024 := by unfold wasK; rw [Nat.zero_mul, List.take_zero]; rfl
theorem wasK_all {l : List UInt8} (h : l.length = 1024) : wasK l 8 = l := by unfold wasK; rw [List.take_of_length_le (by omega)]; simp
theorem wasK_len {l : List UInt8} (h : l.length = 1024) {k : Nat} (hk : k ≤ 8) : (wasK l k).length = 1024 := by unfold wasK; rw [List.length_append, List.length_take, List.length_replicate]; omega
theorem wasK_succ {l : List UInt8} (h : l.length = 1024) {k : Nat} (hk : k < 8) : splice (wasK l k) (k * 128) (secOf l (k : Int)) = wasK l (k + 1) := by
  have e1 : (l.take (k * 128)).length = k * 128 := by rw [List.length_take]; omega
  have e2 : (secOf l (k : Int)).length = 128 := secOf_len (s := 8) h (by omega) (by omega)
  unfold splice wasK
  rw [e2, List.take_append_of_le_length (by omega), List.take_of_length_le (by omega), List.drop_append, e1, List.drop_of_length_le (show (l.take (k * 128)).length ≤ k * 128 + 128 by omega), List.nil_append, show (k * 128 + 128 - k * 128) = 128 by omega, List.drop_replicate, show 1024 - k * 128 - 128 = 1024 - (k + 1) * 128 by omega, ← List.append_assoc]
  congr 1
  unfold secOf
  rw [Int.toNat_natCast, show (k + 1) * 128 = k * 128 + 128 by omega, List.take_add]
/-- Is a byte what it was, or what was written? -/
def okK (l : List DoV) (n i x : Nat) (b0 : Bool) : Nat → Bool
  | 0 => b0
  | k + 1 => okK l n i x b0 k || (decide ((doAt l k).kind = 1) && (decide ((doAt l k).n = (n : Int)) && decide (byteAt (fullL (doAt l k).b) i = x)))
theorem okK_old {l : List DoV} {n i x : Nat} {b0 : Bool} (h : b0 = true) : ∀ k, okK l n i x b0 k = true := by
  intro k
  induction k with
  | zero => exact h
  | succ k ih => unfold okK; rw [ih]; rfl
theorem okK_hit {l : List DoV} {n i x : Nat} {b0 : Bool} {j : Nat} (h1 : (doAt l j).kind = 1) (h2 : (doAt l j).n = (n : Int)) (h3 : byteAt (fullL (doAt l j).b) i = x) : ∀ k, j < k → okK l n i x b0 k = true := by
  intro k
  induction k with
  | zero => intro h; omega
  | succ k ih =>
    intro h
    unfold okK
    rcases Nat.lt_or_ge j k with q | q
    · rw [ih q]; rfl
    · have : j = k := by omega
      subst this
      rw [decide_eq_true h1, decide_eq_true h2, decide_eq_true h3]; simp
theorem doAt_of {l : List DoV} {k : Nat} {x : DoV} (hx : l[k]? = some x) : doAt l k = x := by unfold doAt; rw [List.getD_eq_getElem?_getD, hx]; rfl
def D80 : DiskV := newV 8 8
theorem d80_calm : Calm D80 := calm_new (many := 8) (by omega) (by omega)
theorem d80_waits : D80.waits.length = 0 := rfl
set_option maxRecDepth 100000 in
set_option maxHeartbeats 8000000 in
theorem walk_main (A0 B0 C0 : Option Addr) (n m0 k0 c0 d0 f0 : Nat) (l1 l2 : List DoV) (cs : List UInt8) (w : World) (h1 : DosRd w A0 n l1) (h2 : DosRd w B0 m0 l2) (h3 : RB w C0 k0 cs) (hn : n ≤ maxLen) (hm : m0 ≤ maxLen) (q1 : few6B l1 = true) (q2 : few6B l2 = true) (hk : k0 ≤ 100) :
    Calls Try.prog 3 #[.slice A0 n c0, .slice B0 m0 d0, .slice C0 k0 f0] w fun e w' => e = .returned (.bool true) ∧ Below w.heap.size w w' := by
  have hf1 := fun w h => few6_any A0 n c0 l1 w h hn
  have hf2 := fun w h => few6_any B0 m0 d0 l2 w h hm
  rw [q1] at hf1
  rw [q2] at hf2
  have hl1 := (few6B_true q1)
  have hl2 := (few6B_true q2)
  rw [h1.1] at hl1
  rw [h2.1] at hl2
  have hn40 := hl1.1
  have hm40 := hl2.1
  have hs1 := Lib.hid hl1.2
  have hs2 := Lib.hid hl2.2
  have hcalm1 := fun j (hj : j ≤ 40) => wrK_calm d80_calm l1 j (by rw [d80_waits]; omega)
  have Hc1 := Lib.hid hcalm1
  have hnew : ∀ w, Calls Try.prog 17 #[.int .i64 8, .int .i64 8] w (NwPost w D80) := fun w => new_ok 8 8 w (by omega) (by omega) (by omega) (by omega)
  clear hl1 hl2 q1 q2 hn hm hcalm1
  go_enter Try.func3, Try.ntmps3
  go_wp2_with (first
    | ((go_at_call 15; (with_reducible refine (awake6 _).mono ?_); rintro e w1 ⟨rfl, hb1⟩); replace hb1 := below_then' (a := w) (B := w.heap.size) (by (repeat' (first | (with_reducible exact Below.refl _ _) | (with_reducible assumption) | (with_reducible refine Below.drew ?_) | (with_reducible refine below_drewN ?_ _) | (with_reducible refine Below.alloc ?_ ?_ _) | (with_reducible refine Below.setCell ?_ ?_ _) | omega | (simp; done) | (simp; omega)))) hb1 (by first | omega | (simp; done) | (simp; omega)); have hb1s := hb1.size)
    | ((go_at_call 16; (with_reducible refine (hf1 _ (h1.below (B0 := w.heap.size) (by (repeat' (first | (with_reducible exact Below.refl _ _) | (with_reducible assumption) | (with_reducible refine Below.drew ?_) | (with_reducible refine below_drewN ?_ _) | (with_reducible refine Below.alloc ?_ ?_ _) | (with_reducible refine Below.setCell ?_ ?_ _) | omega | (simp; done) | (simp; omega)))) (Nat.le_refl _))).mono ?_); rintro e w2 ⟨rfl, hb2⟩); replace hb2 := below_then' (a := w) (B := w.heap.size) (by (repeat' (first | (with_reducible exact Below.refl _ _) | (with_reducible assumption) | (with_reducible refine Below.drew ?_) | (with_reducible refine below_drewN ?_ _) | (with_reducible refine Below.alloc ?_ ?_ _) | (with_reducible refine Below.setCell ?_ ?_ _) | omega | (simp; done) | (simp; omega)))) hb2 (by first | omega | (simp; done) | (simp; omega)); have hb2s := hb2.size)
    | ((go_at_call 16; (with_reducible refine (hf2 _ (h2.below (B0 := w.heap.size) (by (repeat' (first | (with_reducible exact Below.refl _ _) | (with_reducible assumption) | (with_reducible refine Below.drew ?_) | (with_reducible refine below_drewN ?_ _) | (with_reducible refine Below.alloc ?_ ?_ _) | (with_reducible refine Below.setCell ?_ ?_ _) | omega | (simp; done) | (simp; omega)))) (Nat.le_refl _))).mono ?_); rintro e w3 ⟨rfl, hb3⟩); replace hb3 := below_then' (a := w) (B := w.heap.size) (by (repeat' (first | (with_reducible exact Below.refl _ _) | (with_reducible assumption) | (with_reducible refine Below.drew ?_) | (with_reducible refine below_drewN ?_ _) | (with_reducible refine Below.alloc ?_ ?_ _) | (with_reducible refine Below.setCell ?_ ?_ _) | omega | (simp; done) | (simp; omega)))) hb3 (by first | omega | (simp; done) | (simp; omega)); have hb3s := hb3.size)
    | ((go_at_call 17; (with_reducible refine (hnew _).mono ?_); rintro e w4 ⟨p, rfl, hd4, hb4⟩); have H4 := Lib.hid (hd4.rebase (base' := w.heap.size) (by first | omega | (simp; done) | (simp; omega))); clear hd4; replace hb4 := below_then' (a := w) (B := w.heap.size) (by (repeat' (first | (with_reducible exact Below.refl _ _) | (with_reducible assumption) | (with_reducible refine Below.drew ?_) | (with_reducible refine below_drewN ?_ _) | (with_reducible refine Below.alloc ?_ ?_ _) | (with_reducible refine Below.setCell ?_ ?_ _) | omega | (simp; done) | (simp; omega)))) hb4 (by first | omega | (simp; done) | (simp; omega)); have hb4s := hb4.size)
    | fail "no arm")
  clear hf1 hf2
  generalize hbase : w.heap.size = base at *
  go_loopw [10, 47] (fun _ i wr => ∃ j : Nat, j ≤ n ∧ i = .int .i64 (j : Nat) ∧ DiskS wr base p (wrK D80 l1 j) ∧ Below base w wr) (fun _ i _ => n - (intOf i).toNat)
  case atStart => exact ⟨0, by omega, rfl, H4.out.s, (by (repeat' (first | (with_reducible exact Below.refl _ _) | (with_reducible assumption) | (with_reducible refine Below.drew ?_) | (with_reducible refine below_drewN ?_ _) | (with_reducible refine Below.alloc ?_ ?_ _) | (with_reducible refine Below.setCell ?_ ?_ _) | omega | (simp; done) | (simp; omega))))⟩
  case round =>
    obtain ⟨j, hj, rfl, ⟨A, c, hd⟩, hbel⟩ := hrel
    have hbs := hbel.size
    by_cases hlt : j < n
    · obtain ⟨x, hx⟩ : ∃ x, l1[j]? = some x := ⟨_, List.getElem?_eq_getElem (by rw [h1.1]; exact hlt)⟩
      obtain ⟨b, o, B, m, d, rfl, hb, e0, e1, e2, hr, hmd, hdm, _, _⟩ := (h1.below hbel (by omega)).2 j x hx
      simp only [Nat.add_zero] at e0
      by_cases hkind : x.kind = 1
      · have hnx := Lib.hid (wrK_yes (D := D80) hx hkind)
        have hkB : (x.kind == 1) = true := by rw [hkind]; rfl
        have hwl : (wrK D80 l1 j).waits.length < 1000000 := by have := (Hc1.out j (by omega)).2.2; rw [d80_waits] at this; omega
        have hmm : m ≤ maxLen := by omega
        have HD := Lib.hid hd
        clear hd hkind
        go_wp2
        go_region_held3 (fun w' => w'.cell? ⟨wr.heap.size, 1, none⟩ = some (.int .i64 x.n) ∧ w'.cell? ⟨wr.heap.size, 2, none⟩ = some (.slice B m d)) (first | go_keep | (refine ⟨?_, ?_⟩ <;> assumption)) (first
          | ((go_at_call 19; (with_reducible refine (full_any B m d x.b _ (hr.below (B := wr.heap.size) (by (repeat' (first | (with_reducible exact Below.refl _ _) | (with_reducible assumption) | (with_reducible refine Below.drew ?_) | (with_reducible refine below_drewN ?_ _) | (with_reducible refine Below.alloc ?_ ?_ _) | (with_reducible refine Below.setCell ?_ ?_ _) | omega | (simp; done) | (simp; omega)))) (Nat.le_refl _)) hmm).mono ?_); rintro e w2 ⟨rfl, hb2⟩); have hx2 := Blk.below (w' := w2) (g := wr.heap.size) (t := 31) (cs := [.int .i64 x.kind, .int .i64 x.n, .slice B m d]) (by (repeat' (first | (with_reducible assumption) | (with_reducible refine Blk.top _ (by first | rfl | omega | (simp; done) | (simp; omega)) rfl) | (with_reducible refine Blk.alloc ?_ _) | (with_reducible refine Blk.drew ?_) | (with_reducible refine Blk.drewN ?_ _) | (with_reducible refine Blk.far ?_ (by first | omega | (simp; done) | (simp; omega)) _)))) hb2 (by first | omega | (simp; done) | (simp; omega)); have y1 : w2.cell? ⟨wr.heap.size, 1, none⟩ = some (.int .i64 x.n) := hx2.cell 1; have y2 : w2.cell? ⟨wr.heap.size, 2, none⟩ = some (.slice B m d) := hx2.cell 2; have hq2 : Below wr.heap.size wr w2 := below_then' (by (repeat' (first | (with_reducible exact Below.refl _ _) | (with_reducible assumption) | (with_reducible refine Below.drew ?_) | (with_reducible refine below_drewN ?_ _) | (with_reducible refine Below.alloc ?_ ?_ _) | (with_reducible refine Below.setCell ?_ ?_ _) | omega | (simp; done) | (simp; omega)))) hb2 (by first | omega | (simp; done) | (simp; omega)); have H2 := Lib.hid (HD.out.below hq2); have s2 := hq2.size; have lx2 := hx2.lt)
          | ((go_at_call 18; (with_reducible refine (write_any H2.out x.n (fullL x.b) (fullL_len _) hwl (by omega)).mono ?_); rintro e w3 ⟨rfl, A3, c3, h3, k3, n3⟩); have hx3 := H2.out.spares hx2 k3 (by decide) (by decide) (by decide) (by decide) (by decide); have y3 : w3.cell? ⟨wr.heap.size, 1, none⟩ = some (.int .i64 x.n) := hx3.cell 1; have y4 : w3.cell? ⟨wr.heap.size, 2, none⟩ = some (.slice B m d) := hx3.cell 2; have H3 := Lib.hid h3; have q3 : Below base w2 w3 := H2.out.belowK k3 (by omega); have q23 : Below base wr w3 := (hq2.mono (by omega)).trans q3; have s3 := q3.size; clear h3)
          | fail "no arm")
        go_wp2
        go_roundw
        case rel => exact ⟨j + 1, by omega, by go_num, by rw [hnx.out]; exact H3.out.s, hbel.trans q23⟩
        case measure => simp [intOf]; omega
      · have hnx := Lib.hid (wrK_no (D := D80) hx hkind)
        have hkB : (x.kind == 1) = false := by rw [beq_eq_false_iff_ne]; exact hkind
        have HD := Lib.hid hd
        clear hd hkind
        go_wp2
        go_roundw
        case rel => exact ⟨j + 1, by omega, by go_num, by rw [hnx.out]; exact (HD.out.alloc _).s, (by (repeat' (first | (with_reducible exact Below.refl _ _) | (with_reducible assumption) | (with_reducible refine Below.drew ?_) | (with_reducible refine below_drewN ?_ _) | (with_reducible refine Below.alloc ?_ ?_ _) | (with_reducible refine Below.setCell ?_ ?_ _) | omega | (simp; done) | (simp; omega))))⟩
        case measure => simp [intOf]; omega
    · have hj9 : j = n := by omega
      subst hj9
      obtain ⟨k1, k2, k3⟩ := Hc1.out j hn40
      rw [d80_waits] at k3
      rw [show D80.many = 8 from rfl] at k2
      clear Hc1 hs1 hnew
      generalize wrK D80 l1 j = D1 at *
      obtain ⟨fl, c2⟩ := k1.flush
      have hm2 : (flushD (goesV D1 3)).many = 8 := k2
      have hw2 : (flushD (goesV D1 3)).waits = [] := rfl
      have hfl := flush_any hd
      rw [fl] at hfl
      simp only at hfl
      generalize flushD (goesV D1 3) = D2 at *
      have hz := (zero_of_info zero128).1
      have Hi := Lib.hid (zero_of_info zero128).2
      have hlz : Hid ((zerosL.map bv).length = 128) := by show _ = _; simp [zerosL_len]
      have hz8 := (zero_of_info zero1024).1
      have Hi8 := Lib.hid (zero_of_info zero1024).2
      have hlen2 : D2.now.length = 1024 := by rw [c2.ok.now, hm2]
      have hZ0 : Hid ((wasK D2.now 0).map bv = z1024.map bv) := by show _ = _; rw [wasK_zero]
      have C2 := Lib.hid c2
      have M2 := Lib.hid hm2
      have W2 := Lib.hid hw2
      have L2 := Lib.hid hlen2
      have hd0 := hd
      clear hd c2 hm2 hw2 hlen2 k1 k2 k3 fl
      unfold aggB at *
      generalize zerosL.map bv = Z at *
      generalize z1024.map bv = Z8 at *
      have HD := Lib.hid hd0
      clear hd0
      go_wp2_with (first
        | ((go_at_call 20; (with_reducible refine (hfl).mono ?_); rintro e w5 ⟨rfl, A5, c5, h5, k5, n5⟩); have H5 := Lib.hid h5; have b5 : Below base w w5 := hbel.trans (HD.out.belowK k5 (by omega)); have s5 := b5.size; clear h5)
        | fail "no arm")
      clear hfl
      go_loopw [12, 13, 14, 65] (fun _ _ _ i wr => ∃ k : Nat, k ≤ 8 ∧ i = .int .i64 (k : Nat) ∧ (∃ o, DiskS wr base p { D2 with ops := o }) ∧ BlkB wr w5.heap.size 36 (wasK D2.now k) ∧ Below base w wr) (fun _ _ _ i _ => 8 - (intOf i).toNat)
      case atStart => exact ⟨0, by omega, rfl, ⟨D2.ops, (H5.out.alloc _).s⟩, by unfold BlkB; rw [hZ0.out]; exact (by (repeat' (first | (with_reducible assumption) | (with_reducible refine Blk.top _ (by first | rfl | omega | (simp; done) | (simp; omega)) rfl) | (with_reducible refine Blk.alloc ?_ _) | (with_reducible refine Blk.drew ?_) | (with_reducible refine Blk.drewN ?_ _) | (with_reducible refine Blk.far ?_ (by first | omega | (simp; done) | (simp; omega)) _)))), (by (repeat' (first | (with_reducible exact Below.refl _ _) | (with_reducible assumption) | (with_reducible refine Below.drew ?_) | (with_reducible refine below_drewN ?_ _) | (with_reducible refine Below.alloc ?_ ?_ _) | (with_reducible refine Below.setCell ?_ ?_ _) | omega | (simp; done) | (simp; omega))))⟩
      case round =>
        obtain ⟨k, hk8, rfl, ⟨o2, A2, d2, hd2⟩, hws, hbel2⟩ := hrel
        have hbs2 := hbel2.size
        by_cases hlt : k < 8
        · have hrd := read_yes hd2 (k : Int) (by show mayV D2 _ = 0; rw [C2.out.may, M2.out, if_neg (by omega)])
          have hseq : secOf ({ D2 with ops := o2 } : DiskV).now (k : Int) = secOf D2.now (k : Int) := rfl
          have hsl : Hid (((secOf D2.now (k : Int)).map bv).length = 128) := by show _ = _; rw [List.length_map, secOf_len (s := 8) L2.out (by omega) (by omega)]
          have hsm := Lib.hid (mem_bv (l := secOf D2.now (k : Int)))
          have hst : Hid (splice ((wasK D2.now k).map bv) (k * 128) ((secOf D2.now (k : Int)).map bv) = (wasK D2.now (k + 1)).map bv) := by show _ = _; rw [splice_map, wasK_succ L2.out hlt]
          have hwl : Hid (((wasK D2.now k).map bv).length = 1024) := by show _ = _; rw [List.length_map, wasK_len L2.out hk8]
          rw [hseq] at hrd
          have HD2 := Lib.hid hd2
          have HWS := Lib.hid hws
          unfold BlkB at HWS hws
          have hnx : ∃ o, readV' { D2 with ops := o2 } = { D2 with ops := o } := ⟨_, rfl⟩
          generalize readV' { D2 with ops := o2 } = D3 at *
          generalize (wasK D2.now k).map bv = W0 at *
          generalize hS : (secOf D2.now (k : Int)).map bv = S at *
          have HNX := Lib.hid hnx
          have hkI : (k : Int) < 8 := by omega
          unfold aggB at hrd
          rw [hS] at hrd
          clear hd2 hseq hnx hS hws
          go_wp2_with (first
            | ((go_at_call 21; (with_reducible refine (hrd).mono ?_); rintro e w6 ⟨rfl, h6, k6⟩); have b6 : Below base wr w6 := HD2.out.belowK k6 (by omega); have s6 := b6.size; have H6 := Lib.hid h6; have W6 := Lib.hid (HD2.out.spares HWS.out k6 (by decide) (by decide) (by decide) (by decide) (by decide)); have l6 := W6.out.lt; clear h6)
            | (refine wpList_store_arr rfl (x := .tmp 13) (y := .tmp 72) rfl rfl rfl (t := 33) (cs := Z) (xs := S) (Blk.top _ rfl rfl) Hi.out hsl.out (by rw [hlz.out]; omega) hsm.out ?_; intro w7 hb7 hg7 hs7; rw [splice_all _ _ (hlz.out.trans hsl.out.symm)] at hb7; have hl7 := (fun g hg => H6.out.lt g hg); have H7 := Lib.hid ((H6.out.alloc (.cells Z.toArray 33)).keep (F := (· = w6.heap.size)) (Keep.one hg7) (fun g hg e => by have := hl7 g hg; omega)); have W7 := Lib.hid ((W6.out.alloc (.cells Z.toArray 33)).keep (F := (· = w6.heap.size)) (Keep.one hg7) (by omega)); have b7 : Below base wr w7 := below_of_only (b6.alloc (by omega) _) hg7 (by simp; omega) (by omega))
            | (refine wpList_load_arr rfl (x := .tmp 13) rfl rfl hb7 Try.underlying33 Hi.out hsl.out (by rw [List.drop_zero, List.take_of_length_le (by rw [hsl.out]; omega)]) ?_; go_step; go_step; go_step; refine wpList_store_arr rfl (x := .tmp 78) (y := .tmp 77) rfl (off := k * 128) rfl rfl W7.out Hi.out hsl.out (by rw [hwl.out]; omega) hsm.out ?_; intro w8 hb8 hg8 hs8; rw [hst.out] at hb8; have H8 := Lib.hid (H7.out.keep (F := (· = w5.heap.size)) (Keep.one hg8) (fun g hg e => by subst e; rcases H7.out.foot_ty W7.out hg with q | q | q | q | q <;> exact absurd q (by decide))); have s7 := b7.size; have b8 : Below base wr w8 := below_of_only b7 hg8 (by omega) (by omega))
            | fail "no arm")
          go_roundw
          case rel =>
            obtain ⟨o3, e3⟩ := HNX.out
            have hfin := H8.out.s
            rw [e3] at hfin
            first
              | exact ⟨k + 1, by omega, by go_num, ⟨o3, hfin⟩, hb8, hbel2.trans b8⟩
              | exact ⟨_, _, _, _, ⟨k + 1, by omega, by go_num, ⟨o3, hfin⟩, hb8, hbel2.trans b8⟩, rfl, rfl, rfl, rfl⟩
          case measure => simp [intOf]; omega
        · have hk9 : k = 8 := by omega
          subst hk9
          rw [wasK_all L2.out] at hws
          have hkp := fun j (hj : j ≤ 40) n (hn : n < 8) i (hi : i < 128) => keeps (D := { D2 with ops := o2 }) ⟨⟨C2.out.ok.many0, C2.out.ok.many1, C2.out.ok.kept, C2.out.ok.now, C2.out.ok.inuse, C2.out.ok.might, C2.out.ok.waits, C2.out.ok.room, C2.out.ok.cut, C2.out.ok.few⟩, C2.out.cut, C2.out.off, C2.out.room, C2.out.now, C2.out.might⟩ W2.out l2 j (by omega) cs n i (by show n < D2.many; rw [M2.out]; exact hn) hi
          have hcalm3 := fun j (hj : j ≤ 40) => wrK_calm (D := { D2 with ops := o2 }) ⟨⟨C2.out.ok.many0, C2.out.ok.many1, C2.out.ok.kept, C2.out.ok.now, C2.out.ok.inuse, C2.out.ok.might, C2.out.ok.waits, C2.out.ok.room, C2.out.ok.cut, C2.out.ok.few⟩, C2.out.cut, C2.out.off, C2.out.room, C2.out.now, C2.out.might⟩ l2 j (by show D2.waits.length + _ < _; rw [W2.out]; simp; omega)
          have hw3 : ({ D2 with ops := o2 } : DiskV).waits.length = 0 := by show D2.waits.length = 0; rw [W2.out]; rfl
          have hm3 : ({ D2 with ops := o2 } : DiskV).many = 8 := M2.out
          have hn3 : ({ D2 with ops := o2 } : DiskV).now = D2.now := rfl
          have hd3 : DiskS wr base p { D2 with ops := o2 } := ⟨_, _, hd2⟩
          generalize ({ D2 with ops := o2 } : DiskV) = D3 at *
          rw [hm3] at hcalm3
          rw [hn3] at hkp
          have HKP := Lib.hid hkp
          have HC3 := Lib.hid hcalm3
          have HW3 := Lib.hid hw3
          have HM3 := Lib.hid hm3
          have HD3 := Lib.hid hd3
          have HWS := Lib.hid hws
          clear hkp hcalm3 hw3 hm3 hd3 hws hn3 hd2
          go_wp2
          go_loopw [16, 82] (fun _ i wr => ∃ j : Nat, j ≤ m0 ∧ i = .int .i64 (j : Nat) ∧ DiskS wr base p (wrK D3 l2 j) ∧ BlkB wr w5.heap.size 36 D2.now ∧ Below base w wr) (fun _ i _ => m0 - (intOf i).toNat)
          case atStart => exact ⟨0, by omega, rfl, HD3.out, HWS.out, hbel2⟩
          case round =>
            obtain ⟨j2, hj2, rfl, ⟨A, c, hd⟩, hws, hbel⟩ := hrel
            have hbs := hbel.size
            by_cases hlt : j2 < m0
            · obtain ⟨x, hx⟩ : ∃ x, l2[j2]? = some x := ⟨_, List.getElem?_eq_getElem (by rw [h2.1]; exact hlt)⟩
              obtain ⟨b, o, B, m, d, rfl, hb, e0, e1, e2, hr, hmd, hdm, _, _⟩ := (h2.below hbel (by omega)).2 j2 x hx
              simp only [Nat.add_zero] at e0
              by_cases hkind : x.kind = 1
              · have hnx := Lib.hid (wrK_yes (D := D3) hx hkind)
                have hkB : (x.kind == 1) = true := by rw [hkind]; rfl
                have hwl : (wrK D3 l2 j2).waits.length < 1000000 := by have := (HC3.out j2 (by omega)).2.2; rw [HW3.out] at this; omega
                have hmm : m ≤ maxLen := by omega
                have HD := Lib.hid hd
                have HW := Lib.hid hws
                clear hd hkind hws
                go_wp2
                go_region_held3 (fun w' => w'.cell? ⟨wr.heap.size, 1, none⟩ = some (.int .i64 x.n) ∧ w'.cell? ⟨wr.heap.size, 2, none⟩ = some (.slice B m d)) (first | go_keep | (refine ⟨?_, ?_⟩ <;> assumption)) (first
                  | ((go_at_call 19; (with_reducible refine (full_any B m d x.b _ (hr.below (B := wr.heap.size) (by (repeat' (first | (with_reducible exact Below.refl _ _) | (with_reducible assumption) | (with_reducible refine Below.drew ?_) | (with_reducible refine below_drewN ?_ _) | (with_reducible refine Below.alloc ?_ ?_ _) | (with_reducible refine Below.setCell ?_ ?_ _) | omega | (simp; done) | (simp; omega)))) (Nat.le_refl _)) hmm).mono ?_); rintro e w2 ⟨rfl, hb2⟩); have hx2 := Blk.below (w' := w2) (g := wr.heap.size) (t := 31) (cs := [.int .i64 x.kind, .int .i64 x.n, .slice B m d]) (by (repeat' (first | (with_reducible assumption) | (with_reducible refine Blk.top _ (by first | rfl | omega | (simp; done) | (simp; omega)) rfl) | (with_reducible refine Blk.alloc ?_ _) | (with_reducible refine Blk.drew ?_) | (with_reducible refine Blk.drewN ?_ _) | (with_reducible refine Blk.far ?_ (by first | omega | (simp; done) | (simp; omega)) _)))) hb2 (by first | omega | (simp; done) | (simp; omega)); have y1 : w2.cell? ⟨wr.heap.size, 1, none⟩ = some (.int .i64 x.n) := hx2.cell 1; have y2 : w2.cell? ⟨wr.heap.size, 2, none⟩ = some (.slice B m d) := hx2.cell 2; have hq2 : Below wr.heap.size wr w2 := below_then' (by (repeat' (first | (with_reducible exact Below.refl _ _) | (with_reducible assumption) | (with_reducible refine Below.drew ?_) | (with_reducible refine below_drewN ?_ _) | (with_reducible refine Below.alloc ?_ ?_ _) | (with_reducible refine Below.setCell ?_ ?_ _) | omega | (simp; done) | (simp; omega)))) hb2 (by first | omega | (simp; done) | (simp; omega)); have H2 := Lib.hid (HD.out.below hq2); have s2 := hq2.size; have lx2 := hx2.lt)
                  | ((go_at_call 18; (with_reducible refine (write_any H2.out x.n (fullL x.b) (fullL_len _) hwl (by omega)).mono ?_); rintro e w3 ⟨rfl, A3, c3, h3, k3, n3⟩); have hx3 := H2.out.spares hx2 k3 (by decide) (by decide) (by decide) (by decide) (by decide); have y3 : w3.cell? ⟨wr.heap.size, 1, none⟩ = some (.int .i64 x.n) := hx3.cell 1; have y4 : w3.cell? ⟨wr.heap.size, 2, none⟩ = some (.slice B m d) := hx3.cell 2; have H3 := Lib.hid h3; have q3 : Below base w2 w3 := H2.out.belowK k3 (by omega); have q23 : Below base wr w3 := (hq2.mono (by omega)).trans q3; have s3 := q3.size; clear h3)
                  | fail "no arm")
                have hw3 := H2.out.spares (HW.out.below hq2 HW.out.lt) k3 (by decide) (by decide) (by decide) (by decide) (by decide)
                go_wp2
                go_roundw
                case rel =>
                  have hfin : DiskS w3 base p (wrK D3 l2 (j2 + 1)) := by rw [hnx.out]; exact H3.out.s
                  first
                    | exact ⟨j2 + 1, by omega, by go_num, hfin, hw3, hbel.trans q23⟩
                    | ((repeat apply Exists.intro); exact ⟨⟨j2 + 1, by omega, by go_num, hfin, hw3, hbel.trans q23⟩, rfl⟩)
                case measure => simp [intOf]; omega
              · have hnx := Lib.hid (wrK_no (D := D3) hx hkind)
                have hkB : (x.kind == 1) = false := by rw [beq_eq_false_iff_ne]; exact hkind
                have HD := Lib.hid hd
                have HW := Lib.hid hws
                clear hd hkind hws
                go_wp2
                go_roundw
                case rel => exact ⟨j2 + 1, by omega, by go_num, by rw [hnx.out]; exact (HD.out.alloc _).s, HW.out.alloc _, (by (repeat' (first | (with_reducible exact Below.refl _ _) | (with_reducible assumption) | (with_reducible refine Below.drew ?_) | (with_reducible refine below_drewN ?_ _) | (with_reducible refine Below.alloc ?_ ?_ _) | (with_reducible refine Below.setCell ?_ ?_ _) | omega | (simp; done) | (simp; omega))))⟩
                case measure => simp [intOf]; omega
            · have hj9 : j2 = m0 := by omega
              subst hj9
              have hcr := crash_any hd C0 k0 f0 cs (h3.below hbel (by omega)) (fun h0 g hg e => by
                obtain ⟨b, o, e1, hb, _⟩ := h3.2 h0
                rw [e1] at e
                have e2 : b = g := by simpa using e
                have := hd.bs g hg
                omega) (by unfold maxLen; omega)
              obtain ⟨r1, r2, r3⟩ := HC3.out j2 hm40
              have c4 := r1.crash cs
              have hm4 : (crashV (wrK D3 l2 j2) cs).many = 8 := r2
              have hkp := fun n hn i hi => HKP.out j2 hm40 n hn i hi
              have HKP4 := Lib.hid hkp
              generalize crashV (wrK D3 l2 j2) cs = D4 at *
              have hlen4 : D4.now.length = 1024 := by rw [c4.ok.now, hm4]
              have C4 := Lib.hid c4
              have M4 := Lib.hid hm4
              have L4 := Lib.hid hlen4
              have HD := Lib.hid hd
              have HW := Lib.hid hws
              clear hkp c4 hm4 hlen4 hd hws r1 r2 r3 HKP HC3
              go_wp2_with (first
                | ((go_at_call 22; (with_reducible refine (hcr).mono ?_); rintro e w9 ⟨rfl, A9, c9, h9, k9, n9⟩); have H9 := Lib.hid h9; have b9 : Below base wr w9 := HD.out.belowK k9 (by omega); have s9 := b9.size; have W9 := Lib.hid (HD.out.spares HW.out k9 (by decide) (by decide) (by decide) (by decide) (by decide)); clear h9)
                | fail "no arm")
              clear hcr
              go_loopw [17, 18, 19, 20, 21, 23, 100, 111, 125] (fun _ _ _ _ _ _ i _ _ wr => ∃ k : Nat, k ≤ 8 ∧ i = .int .i64 (k : Nat) ∧ (∃ o, DiskS wr base p { D4 with ops := o }) ∧ BlkB wr w5.heap.size 36 D2.now ∧ Below base w wr) (fun _ _ _ _ _ _ i _ _ _ => 8 - (intOf i).toNat)
              case atStart => exact ⟨0, by omega, rfl, ⟨D4.ops, H9.out.s⟩, W9.out, hbel.trans b9⟩
              case round =>
                obtain ⟨k, hk8, rfl, ⟨o2, A2, d2, hd2⟩, hws, hbel4⟩ := hrel
                have hbs4 := hbel4.size
                by_cases hlt : k < 8
                · have hrd := read_yes hd2 (k : Int) (by show mayV D4 _ = 0; rw [C4.out.may, M4.out, if_neg (by omega)])
                  have hseq : secOf ({ D4 with ops := o2 } : DiskV).now (k : Int) = secOf D4.now (k : Int) := rfl
                  have hsl : Hid (((secOf D4.now (k : Int)).map bv).length = 128) := by show _ = _; rw [List.length_map, secOf_len (s := 8) L4.out (by omega) (by omega)]
                  have hsm := Lib.hid (mem_bv (l := secOf D4.now (k : Int)))
                  rw [hseq] at hrd
                  have HD2 := Lib.hid hd2
                  have HWS := Lib.hid hws
                  unfold BlkB at HWS hws
                  have hnx : ∃ o, readV' { D4 with ops := o2 } = { D4 with ops := o } := ⟨_, rfl⟩
                  have hkp := fun i hi => HKP4.out k hlt i hi
                  have HKP5 := Lib.hid hkp
                  generalize readV' { D4 with ops := o2 } = D5 at *
                  have HNX := Lib.hid hnx
                  have hkI : (k : Int) < 8 := by omega
                  unfold aggB at hrd
                  have hSB : Hid ((secOf D4.now (k : Int)).length = 128) := by show _ = _; rw [secOf_len (s := 8) L4.out (by omega) (by omega)]
                  generalize secOf D4.now (k : Int) = SB at *
                  generalize hS : SB.map bv = S at *
                  have HS := Lib.hid hS
                  clear hd2 hseq hnx hS hws hkp
                  go_wp2_with (first
                    | ((go_at_call 21; (with_reducible refine (hrd).mono ?_); rintro e w6 ⟨rfl, h6, k6⟩); have b6 : Below base wr w6 := HD2.out.belowK k6 (by omega); have s6 := b6.size; have H6 := Lib.hid h6; have W6 := Lib.hid (HD2.out.spares HWS.out k6 (by decide) (by decide) (by decide) (by decide) (by decide)); have l6 := W6.out.lt; clear h6)
                    | (refine wpList_store_arr rfl (x := .tmp 18) (y := .tmp 107) rfl rfl rfl (t := 33) (cs := Z) (xs := S) (Blk.top _ rfl rfl) Hi.out hsl.out (by rw [hlz.out]; omega) hsm.out ?_; intro w7 hb7 hg7 hs7; rw [splice_all _ _ (hlz.out.trans hsl.out.symm)] at hb7; have hl7 := (fun g hg => H6.out.lt g hg); have H7 := Lib.hid ((H6.out.alloc (.cells Z.toArray 33)).keep (F := (· = w6.heap.size)) (Keep.one hg7) (fun g hg e => by have := hl7 g hg; omega)); have W7 := Lib.hid ((W6.out.alloc (.cells Z.toArray 33)).keep (F := (· = w6.heap.size)) (Keep.one hg7) (by omega)); have b7 : Below base wr w7 := below_of_only (b6.alloc (by omega) _) hg7 (by simp; omega) (by omega))
                    | fail "no arm")
                  have HB7 := Lib.hid hb7
                  clear hb7 hg7 hs7 hrd
                  have s7 := b7.size
                  go_loopw [20, 21, 23, 111, 125] (fun _ _ _ i _ wr => ∃ q : Nat, q ≤ 128 ∧ i = .int .i64 (q : Nat) ∧ Below w7.heap.size w7 wr) (fun _ _ _ i _ _ => 128 - (intOf i).toNat)
                  case atStart => exact ⟨0, by omega, rfl, Below.refl _ _⟩
                  case round =>
                    obtain ⟨q, hq, rfl, hbq⟩ := hrel
                    have hbqs := hbq.size
                    by_cases hlq : q < 128
                    · have x1 : wr.cell? ⟨w6.heap.size, q, none⟩ = some (.int .u8 (byteAt SB q)) := by
                        have := HB7.out.below hbq HB7.out.lt
                        rw [← HS.out] at this
                        exact BlkB.cellB this q (by rw [hSB.out]; exact hlq)
                      have x2 : wr.cell? ⟨w5.heap.size, k * 128 + q, none⟩ = some (.int .u8 (byteAt D2.now (k * 128 + q))) := BlkB.cellB (W7.out.below hbq W7.out.lt) _ (by rw [L2.out]; omega)
                      have hsec : Hid (byteAt (secOf D2.now (k : Int)) q = byteAt D2.now (k * 128 + q)) := byteAt_sec hlq
                      have hok : Hid (okK l2 k q (byteAt SB q) (((byteAt SB q : Nat) : Int) == ((byteAt D2.now (k * 128 + q) : Nat) : Int)) j2 = true) := by
                        rcases HKP5.out q hlq with h | ⟨j, h1, h2, h3, h4⟩
                        · exact okK_old (by rw [h, hsec.out]; simp) j2
                        · exact okK_hit h2 h3 h4 j2 h1
                      have hqI : (q : Int) < 128 := by omega
                      generalize hb0 : (((byteAt SB q : Nat) : Int) == ((byteAt D2.now (k * 128 + q) : Nat) : Int)) = b0 at *
                      go_wp2
                      go_big_quiet (fail)
                      go_wp2
                      go_loopw [21, 23, 125] (fun v _ i wr => ∃ j : Nat, j ≤ j2 ∧ i = .int .i64 (j : Nat) ∧ v = .bool (okK l2 k q (byteAt SB q) b0 j) ∧ Below w7.heap.size w7 wr) (fun _ _ i _ => j2 - (intOf i).toNat)
                      case atStart => exact ⟨0, by omega, rfl, rfl, below_drewN hbq _⟩
                      case round =>
                        obtain ⟨j3, hj3, rfl, rfl, hb3q⟩ := hrel
                        have hb3qs := hb3q.size
                        by_cases hl3 : j3 < j2
                        · obtain ⟨x, hx⟩ : ∃ x, l2[j3]? = some x := ⟨_, List.getElem?_eq_getElem (by rw [h2.1]; exact hl3)⟩
                          obtain ⟨b, o, B, m, d, rfl, hb, e0, e1, e2, hr, hmd, hdm, _, _⟩ := (h2.below (w' := wr) (B0 := base) ((hbel4.trans b7).trans (hb3q.mono (by omega))) (by omega)).2 j3 x hx
                          simp only [Nat.add_zero] at e0
                          have hdo := Lib.hid (doAt_of hx)
                          have hmm : m ≤ maxLen := by omega
                          have y1 : wr.cell? ⟨w6.heap.size, q, none⟩ = some (.int .u8 (byteAt SB q)) := by
                            have := HB7.out.below hb3q HB7.out.lt
                            rw [← HS.out] at this
                            exact BlkB.cellB this q (by rw [hSB.out]; exact hlq)
                          have hlt6 : w6.heap.size < wr.heap.size := by have := HB7.out.lt; omega
                          cases hq0 : okK l2 k q (byteAt SB q) b0 j3 with
                          | true =>
                            have hnx : okK l2 k q (byteAt SB q) b0 (j3 + 1) = true := by
                              show (okK l2 k q (byteAt SB q) b0 j3 || _) = true
                              rw [hq0]; rfl
                            have HN := Lib.hid hnx
                            clear hnx hq0
                            go_wp2
                            go_big_quiet (fail)
                            go_wp2
                            go_roundw
                            case rel => first
                              | exact ⟨j3 + 1, by omega, by go_num, by rw [HN.out], (by (repeat' (first | (with_reducible exact Below.refl _ _) | (with_reducible assumption) | (with_reducible refine Below.drew ?_) | (with_reducible refine below_drewN ?_ _) | (with_reducible refine Below.alloc ?_ ?_ _) | (with_reducible refine Below.setCell ?_ ?_ _) | omega | (simp; done) | (simp; omega))))⟩
                              | ((repeat apply Exists.intro); exact ⟨⟨j3 + 1, by omega, by go_num, by rw [HN.out], (by (repeat' (first | (with_reducible exact Below.refl _ _) | (with_reducible assumption) | (with_reducible refine Below.drew ?_) | (with_reducible refine below_drewN ?_ _) | (with_reducible refine Below.alloc ?_ ?_ _) | (with_reducible refine Below.setCell ?_ ?_ _) | omega | (simp; done) | (simp; omega))))⟩, rfl⟩)
                            case measure => simp [intOf]; omega
                          | false =>
                            by_cases hkind : x.kind = 1
                            · by_cases hnn : x.n = (k : Int)
                              · have hnx : okK l2 k q (byteAt SB q) b0 (j3 + 1) = decide (byteAt (fullL x.b) q = byteAt SB q) := by
                                  show (okK l2 k q (byteAt SB q) b0 j3 || _) = _
                                  rw [hq0, hdo.out, decide_eq_true hkind, decide_eq_true hnn]; simp
                                have hkB : (x.kind == 1) = true := by rw [hkind]; rfl
                                have hnB : (x.n == (k : Int)) = true := by rw [hnn]; simp
                                have hfb : ((fullL x.b).map bv)[q]? = some (.int .u8 (byteAt (fullL x.b) q)) := cellB q (by rw [fullL_len]; exact hlq)
                                have hidx := run_index_arr (P := Try.prog) Try.underlying33 (by kernel_rfl) (by kernel_rfl) hlq hfb
                                have HAG : Hid (aggB (fullL x.b) = .agg ((fullL x.b).map bv).toArray) := rfl
                                generalize byteAt (fullL x.b) q = yb at *
                                generalize (fullL x.b).map bv = FB at *
                                have HN := Lib.hid hnx
                                clear hnx hq0 hkind hfb hnn
                                go_wp2
                                go_region_held3 (fun w' => w'.cell? ⟨wr.heap.size, 0, none⟩ = some (.int .i64 x.kind) ∧ w'.cell? ⟨wr.heap.size, 1, none⟩ = some (.int .i64 x.n) ∧ w'.cell? ⟨wr.heap.size, 2, none⟩ = some (.slice B m d) ∧ w'.cell? ⟨w6.heap.size, q, none⟩ = some (.int .u8 (byteAt SB q))) (first | go_keep | (refine ⟨?_, ?_, ?_, ?_⟩ <;> assumption)) (first
                                  | ((go_at_call 19; (with_reducible refine (full_any B m d x.b _ (hr.below (B := wr.heap.size) (by (repeat' (first | (with_reducible exact Below.refl _ _) | (with_reducible assumption) | (with_reducible refine Below.drew ?_) | (with_reducible refine below_drewN ?_ _) | (with_reducible refine Below.alloc ?_ ?_ _) | (with_reducible refine Below.setCell ?_ ?_ _) | omega | (simp; done) | (simp; omega)))) (Nat.le_refl _)) hmm).mono ?_); rintro e w10 ⟨he10, hb10⟩); rw [HAG.out] at he10; subst he10; have hx10 := Blk.below (w' := w10) (g := wr.heap.size) (t := 31) (cs := [.int .i64 x.kind, .int .i64 x.n, .slice B m d]) (by (repeat' (first | (with_reducible assumption) | (with_reducible refine Blk.top _ (by first | rfl | omega | (simp; done) | (simp; omega)) rfl) | (with_reducible refine Blk.alloc ?_ _) | (with_reducible refine Blk.drew ?_) | (with_reducible refine Blk.drewN ?_ _) | (with_reducible refine Blk.far ?_ (by first | omega | (simp; done) | (simp; omega)) _)))) hb10 (by first | omega | (simp; done) | (simp; omega)); have z0 : w10.cell? ⟨wr.heap.size, 0, none⟩ = some (.int .i64 x.kind) := hx10.cell 0; have z1 : w10.cell? ⟨wr.heap.size, 1, none⟩ = some (.int .i64 x.n) := hx10.cell 1; have z2 : w10.cell? ⟨wr.heap.size, 2, none⟩ = some (.slice B m d) := hx10.cell 2; have hq10 : Below wr.heap.size wr w10 := below_then' (by (repeat' (first | (with_reducible exact Below.refl _ _) | (with_reducible assumption) | (with_reducible refine Below.drew ?_) | (with_reducible refine below_drewN ?_ _) | (with_reducible refine Below.alloc ?_ ?_ _) | (with_reducible refine Below.setCell ?_ ?_ _) | omega | (simp; done) | (simp; omega)))) hb10 (by first | omega | (simp; done) | (simp; omega)); have z3 : w10.cell? ⟨w6.heap.size, q, none⟩ = some (.int .u8 (byteAt SB q)) := (hq10.cell (p := ⟨w6.heap.size, q, none⟩) hlt6).trans y1)
                                  | fail "no arm")
                                go_wp2
                                go_roundw
                                case rel =>
                                  have hfin : Value.bool (((yb : Nat) : Int) == ((byteAt SB q : Nat) : Int)) = .bool (okK l2 k q (byteAt SB q) b0 (j3 + 1)) := by
                                    rw [HN.out]; congr 1; rw [Bool.eq_iff_iff, beq_iff_eq, decide_eq_true_iff]; omega
                                  first
                                    | exact ⟨j3 + 1, by omega, by go_num, hfin, hb3q.trans (hq10.mono hb3qs)⟩
                                    | ((repeat apply Exists.intro); exact ⟨⟨j3 + 1, by omega, by go_num, hfin, hb3q.trans (hq10.mono hb3qs)⟩, rfl⟩)
                                case measure => simp [intOf]; omega
                              · have hnx : okK l2 k q (byteAt SB q) b0 (j3 + 1) = false := by
                                  show (okK l2 k q (byteAt SB q) b0 j3 || _) = _
                                  rw [hq0, hdo.out, decide_eq_false hnn]; simp
                                have hkB : (x.kind == 1) = true := by rw [hkind]; rfl
                                have hnB : (x.n == (k : Int)) = false := by rw [beq_eq_false_iff_ne]; exact hnn
                                have HN := Lib.hid hnx
                                clear hnx hq0 hkind hnn
                                go_wp2
                                go_big_quiet (fail)
                                go_wp2
                                go_roundw
                                case rel => first
                                  | exact ⟨j3 + 1, by omega, by go_num, by rw [HN.out], (by (repeat' (first | (with_reducible exact Below.refl _ _) | (with_reducible assumption) | (with_reducible refine Below.drew ?_) | (with_reducible refine below_drewN ?_ _) | (with_reducible refine Below.alloc ?_ ?_ _) | (with_reducible refine Below.setCell ?_ ?_ _) | omega | (simp; done) | (simp; omega))))⟩
                                  | ((repeat apply Exists.intro); exact ⟨⟨j3 + 1, by omega, by go_num, by rw [HN.out], (by (repeat' (first | (with_reducible exact Below.refl _ _) | (with_reducible assumption) | (with_reducible refine Below.drew ?_) | (with_reducible refine below_drewN ?_ _) | (with_reducible refine Below.alloc ?_ ?_ _) | (with_reducible refine Below.setCell ?_ ?_ _) | omega | (simp; done) | (simp; omega))))⟩, rfl⟩)
                                case measure => simp [intOf]; omega
                            · have hnx : okK l2 k q (byteAt SB q) b0 (j3 + 1) = false := by
                                show (okK l2 k q (byteAt SB q) b0 j3 || _) = _
                                rw [hq0, hdo.out, decide_eq_false hkind]; simp
                              have hkB : (x.kind == 1) = false := by rw [beq_eq_false_iff_ne]; exact hkind
                              have HN := Lib.hid hnx
                              clear hnx hq0 hkind
                              go_wp2
                              go_big_quiet (fail)
                              go_wp2
                              go_roundw
                              case rel => first
                                | exact ⟨j3 + 1, by omega, by go_num, by rw [HN.out], (by (repeat' (first | (with_reducible exact Below.refl _ _) | (with_reducible assumption) | (with_reducible refine Below.drew ?_) | (with_reducible refine below_drewN ?_ _) | (with_reducible refine Below.alloc ?_ ?_ _) | (with_reducible refine Below.setCell ?_ ?_ _) | omega | (simp; done) | (simp; omega))))⟩
                                | ((repeat apply Exists.intro); exact ⟨⟨j3 + 1, by omega, by go_num, by rw [HN.out], (by (repeat' (first | (with_reducible exact Below.refl _ _) | (with_reducible assumption) | (with_reducible refine Below.drew ?_) | (with_reducible refine below_drewN ?_ _) | (with_reducible refine Below.alloc ?_ ?_ _) | (with_reducible refine Below.setCell ?_ ?_ _) | omega | (simp; done) | (simp; omega))))⟩, rfl⟩)
                              case measure => simp [intOf]; omega
                        · have hj9 : j3 = j2 := by omega
                          subst hj9
                          rw [hok.out]
                          go_wp2
                          go_roundw
                          case rel => first
                            | exact ⟨q + 1, by omega, by go_num, hb3q⟩
                            | ((repeat apply Exists.intro); exact ⟨⟨q + 1, by omega, by go_num, hb3q⟩, rfl⟩)
                          case measure => simp [intOf]; omega
                    · have hk9 : q = 128 := by omega
                      subst hk9
                      have H7b := Lib.hid (H7.out.below (hbq.mono (by omega)))
                      have hw7b := W7.out.below hbq W7.out.lt
                      go_wp2
                      go_roundw
                      case rel =>
                        obtain ⟨o3, e3⟩ := HNX.out
                        have hfin := H7b.out.s
                        rw [e3] at hfin
                        first
                          | exact ⟨k + 1, by omega, by go_num, ⟨o3, hfin⟩, hw7b, hbel4.trans (b7.trans (hbq.mono (by omega)))⟩
                          | ((repeat apply Exists.intro); exact ⟨⟨k + 1, by omega, by go_num, ⟨o3, hfin⟩, hw7b, hbel4.trans (b7.trans (hbq.mono (by omega)))⟩, rfl⟩)
                      case measure => simp [intOf]; omega
                · have hk9 : k = 8 := by omega
                  subst hk9
                  clear hws
                  go_wp2
                  go_ret
                  exact ⟨rfl, by rw [hbase]; exact hbel4⟩
theorem walk (w : World) (v0 : Value) (h0 : ∃ A n c l, v0 = .slice A n c ∧ DosRd w A n l ∧ n ≤ c ∧ c ≤ maxLen) (v1 : Value) (h1 : ∃ A n c l, v1 = .slice A n c ∧ DosRd w A n l ∧ n ≤ c ∧ c ≤ maxLen) (C : Option Addr) (k f : Nat) (cs : List UInt8) (hc : RB w C k cs) (nc : k ≤ f) (cm : f ≤ maxLen) :
    Calls Try.prog 3 #[v0, v1, .slice C k f] w fun e w' => e = .returned (.bool true) ∧ Below w.heap.size w w' := by
  obtain ⟨A, n, c, l1, rfl, r1, nc1, cm1⟩ := h0
  obtain ⟨B, m, d, l2, rfl, r2, nc2, cm2⟩ := h1
  by_cases h : few6B l1 = true ∧ few6B l2 = true ∧ k ≤ 100
  · exact walk_main A B C n m k c d f l1 l2 cs w r1 r2 hc (by omega) (by omega) h.1 h.2.1 h.2.2
  · exact walk_big A B C n m k c d f l1 l2 w r1 r2 (by omega) (by omega) (by omega) h

--FRAME tompionlaw06 DiskKeeps diskKeeps walk raw:[]tompionlaw06.Do:args_dos:.slice‹_›none‹_›0‹_›0 raw:[]tompionlaw06.Do:args_dos:.slice‹_›none‹_›0‹_›0 bytes
theorem own : ownKnob Try.prog.godebug = none := by kernel_rfl
theorem laidOut : laidOutB Try.prog = true := by kernel_rfl

set_option maxRecDepth 100000 in
theorem lifted (os : Os) (started : os.Started) (H : Type) (enc : TypeId × Value → H) :
    ReturnsInHanded {} Try.checked os 3 .any (Rows.diskKeepsSpec.pre6 enc Try.prog Try.f3 Rows.diskKeepsRow.domain false) (Rows.diskKeepsSpec.post enc Try.prog Try.f3 false true false false) := by
  refine returnsInHanded_of_change (C := Try.checked) own started (by kernel_rfl) Try.func3
    (ChangeSpec.witness6 (enc := enc) (C := Try.checked) false ⟨#[], #[.slice none 0 0, .slice none 0 0, .slice none 0 0], []⟩ 8 (by kernel_rfl) (by kernel_rfl) (by kernel_rfl) (by kernel_rfl)) ?_
  intro W base args ds gs before hval0 hW hcnd _
  have hval : ∀ (j : Nat) t v, Try.f3.params[j]? = some t → args[j]? = some v → Value.okWide Try.prog W .any base t v := hval0
  have hW' := hW
  obtain ⟨p, q, hA0, hV, rfl, hfz, hnd⟩ := hW
  have hA : DataW.TrodAll enc Try.prog W 0 (fun _ => true) true Try.f3.params.toList args.toList ds p := hA0
  rw [Try.params3] at hA hval
  obtain ⟨v0, vs0, d0, ds0, p0, q0, hargs, rfl, rfl, h0, rr0⟩ := trodAll_cons hA
  obtain ⟨v1, vs1, d1, ds1, p1, q1, rfl, rfl, rfl, h1, rr1⟩ := trodAll_cons rr0
  obtain ⟨v2, vs2, d2, ds2, p2, q2, rfl, rfl, rfl, h2, rr2⟩ := trodAll_cons rr1
  obtain ⟨rfl, rfl, rfl⟩ := trodAll_nil rr2
  obtain rfl : args = #[v0, v1, v2] := by cases args; simp_all
  obtain ⟨rfl, rfl⟩ := trodVars_none hV
  have k0 := h0
  have lt0 : ∀ x ∈ p0, x.block < W.heap.size := by obtain ⟨m, hm⟩ := k0; exact DataW.trod_lt m _ _ _ hm
  have x0 := args_dos (hval 0 22 v0 rfl rfl) h0
  have k1 := h1
  have lt1 : ∀ x ∈ p1, x.block < W.heap.size := by obtain ⟨m, hm⟩ := k1; exact DataW.trod_lt m _ _ _ hm
  have x1 := args_dos (hval 1 22 v1 rfl rfl) h1
  have k2 := h2
  have lt2 : ∀ x ∈ p2, x.block < W.heap.size := by obtain ⟨m, hm⟩ := k2; exact DataW.trod_lt m _ _ _ hm
  obtain ⟨A2, n2, c2, l2, rfl, r2, nc2, cm2⟩ := args_bytes Try.underlying23 Try.underlying5 (by kernel_rfl) (hval 2 23 v2 rfl rfl) h2
  clear hA0 hval0
  refine (walk W v0 x0 v1 x1 A2 n2 c2 l2 r2 nc2 cm2).mono fun e W' ⟨he, bel⟩ => ?_
  subst he
  exact ⟨_, rfl, _, _, _, [], _, [], hW', trodAll_mk1 (shut_bool Try.underlying4 _), (trodAll_cons_mk (Below.trod laidOut (by kernel_rfl) (of_decide_eq_true (by kernel_rfl)) k0 bel lt0) (trodAll_cons_mk (Below.trod laidOut (by kernel_rfl) (of_decide_eq_true (by kernel_rfl)) k1 bel lt1) (trodAll_cons_mk (Below.trod laidOut (by kernel_rfl) (of_decide_eq_true (by kernel_rfl)) k2 bel lt2) trodAll_mk0))), rfl, bel.frame _, fun h => by cases h⟩

theorem over : Rows.diskKeepsRow.holds Try.pinned (OpenSpec.ofChange Rows.diskKeepsSpec) :=
  OpenClaim.holds_of_wide 3 Try.f3 rfl rfl rfl rfl rfl rfl rfl ⟨rfl, rfl, rfl, rfl, rfl⟩ rfl rfl rfl rfl rfl (by kernel_rfl) Try.func3 (by kernel_rfl)
    (of_decide_eq_true (by kernel_rfl)) (by unfold Func.isWrapper; first | (rw [if_pos (by decide +kernel)]; kernel_rfl) | (rw [if_neg (by decide +kernel)]; exact ⟨rfl, rfl⟩))
    (fun os started H enc _ => lifted os started H enc)

theorem proved : Rows.DiskKeepsSaid := over
--ENDFRAME
end Go.Proofs.Ytninidpbchcliaa.diskKeeps
