/- AreaDoes: whatever is done in an area, each answer, and what the disk keeps, are the document's. -/
import Derived.Test.YtninidpbchcliaaOneA
import Derived.Test.YtninidpbchcliaaAreaPlanA
import Derived.IntWalk
namespace Go.Proofs.Ytninidpbchcliaa.areaDoes
open Go.ChangeShapes Go.WideShapes Go.ChangeAt Go.RowKit
set_option linter.unusedVariables false
set_option linter.unusedSimpArgs false
theorem aflush_nil (w : World) : Calls Try.prog 43 #[.pointer none] w fun e w' => e = .returned (.int .i64 1) ∧ w = w' := by
  go_enter Try.func43, Try.ntmps43
  go_wp2
  go_ret
  exact ⟨rfl, rfl⟩
theorem aput_nil (w : World) (n k m : Int) (B : Option Addr) (a b : Nat) : Calls Try.prog 42 #[.pointer none, .int .i64 n, .int .i64 k, .int .i64 m, .slice B a b] w fun e w' => e = .returned (.int .i64 1) ∧ w = w' := by
  go_enter Try.func42, Try.ntmps42
  go_wp2
  go_ret
  exact ⟨rfl, rfl⟩
set_option maxRecDepth 100000 in
theorem awipe_nil (w : World) (n : Int) : Calls Try.prog 41 #[.pointer none, .int .i64 n] w fun e w' => e = .returned (.int .i64 1) ∧ Below w.heap.size w w' := by
  have he : aggB zerosL = .agg Try.zeroCells33 := by kernel_rfl
  have hwr : Calls Try.prog 40 #[.pointer none, .int .i64 n, aggB zerosL] w fun e w' => e = .returned (.int .i64 1) ∧ Below w.heap.size w w' := by
    have hout := fun W F => at_nil W n F
    unfold aggB at *
    generalize zerosL.map bv = SV at *
    go_enter Try.func40, Try.ntmps40
    go_wp2_with (first
      | (go_at_call 82; (with_reducible refine (hout _ _).mono ?_); rintro e w1 ⟨rfl, rfl⟩)
      | fail "no arm")
    go_ret
    exact ⟨rfl, (by (repeat' (first | (with_reducible exact Below.refl _ _) | (with_reducible assumption) | (with_reducible refine Below.drew ?_) | (with_reducible refine below_drewN ?_ _) | (with_reducible refine Below.alloc ?_ ?_ _) | (with_reducible refine Below.setCell ?_ ?_ _) | omega | (simp; done) | (simp; omega))))⟩
  rw [he] at hwr
  clear he
  go_enter Try.func41, Try.ntmps41
  go_wp2_with (first
    | (go_at_call 40; (with_reducible refine (hwr).mono ?_); rintro e w1 ⟨rfl, hN⟩)
    | fail "no arm")
  go_ret
  exact ⟨rfl, hN⟩
set_option maxRecDepth 100000 in
set_option maxHeartbeats 4000000 in
theorem atake_nil (w : World) (n k : Int) : Calls Try.prog 44 #[.pointer none, .int .i64 n, .int .i64 k] w fun e w' => e = .returned (.tuple #[.int .i64 0, .slice none 0 0, .int .i64 1]) ∧ Below w.heap.size w w' := by
  have hz := (zero_of_info zero128).1
  have Hi := Lib.hid (zero_of_info zero128).2
  have hlz : Hid ((zerosL.map bv).length = 128) := by show _ = _; simp [zerosL_len]
  have HZm := Lib.hid (mem_bv (l := zerosL))
  have hout := fun W F => at_nil W n F
  unfold aggB at *
  generalize zerosL.map bv = Z at *
  have hrd : ∀ w, Calls Try.prog 85 #[.pointer none, .int .i64 n] w fun e w' => e = .returned (.tuple #[.agg Z.toArray, .int .i64 1]) ∧ Below w.heap.size w w' := fun w => by
    go_enter Try.func85, Try.ntmps85
    go_wp2_with (first
      | (go_at_call 82; (with_reducible refine (hout _ _).mono ?_); rintro e w1 ⟨rfl, rfl⟩)
      | (refine wpList_load_arr rfl (x := .tmp 6) rfl rfl (t := 33) (cs := Z) (by (repeat' (first | (with_reducible assumption) | (with_reducible refine Blk.top _ (by first | rfl | omega | (simp; done) | (simp; omega)) rfl) | (with_reducible refine Blk.alloc ?_ _) | (with_reducible refine Blk.drew ?_) | (with_reducible refine Blk.drewN ?_ _) | (with_reducible refine Blk.far ?_ (by first | omega | (simp; done) | (simp; omega)) _)))) Try.underlying33 Hi.out hlz.out (xs := Z) (by rw [List.drop_zero, List.take_of_length_le (by rw [hlz.out]; omega)]) ?_)
      | (refine wpList_store_arr rfl (x := .tmp 4) (y := .tmp 12) rfl rfl rfl (t := 33) (cs := Z) (xs := Z) (by (repeat' (first | (with_reducible assumption) | (with_reducible refine Blk.top _ (by first | rfl | omega | (simp; done) | (simp; omega)) rfl) | (with_reducible refine Blk.alloc ?_ _) | (with_reducible refine Blk.drew ?_) | (with_reducible refine Blk.drewN ?_ _) | (with_reducible refine Blk.far ?_ (by first | omega | (simp; done) | (simp; omega)) _)))) Hi.out hlz.out (by rw [hlz.out]; omega) HZm.out ?_; intro w2 hb2 hg2 hs2; rw [splice_all _ _ rfl] at hb2)
      | fail "no arm")
    refine bodyPost_ret (v := .tuple #[.agg Z.toArray, .int .i64 1]) (results_arr_tmp Try.results85 _ rfl rfl hb2 Try.underlying33 Hi.out hlz.out) rfl ?_
    have hb : Below w.heap.size w w2 := below_of_only ((((Below.refl w.heap.size w).alloc (Nat.le_refl _) _).alloc (by first | omega | (simp; done) | (simp; omega)) _).alloc (by first | omega | (simp; done) | (simp; omega)) _) hg2 (by first | omega | (simp; done) | (simp; omega)) (by first | omega | (simp; done) | (simp; omega))
    exact ⟨rfl, hb⟩
  have HRD := Lib.hid hrd
  clear hrd hout
  go_enter Try.func44, Try.ntmps44
  go_wp2_with (first
    | ((go_at_call 85; (with_reducible refine (HRD.out _).mono ?_); rintro e w1 ⟨rfl, b1⟩); have s1 := b1.size)
    | (refine wpList_store_arr rfl (x := .tmp 9) (y := .tmp 14) rfl rfl rfl (t := 33) (cs := Z) (xs := Z) (Blk.top _ rfl rfl) Hi.out hlz.out (by rw [hlz.out]; omega) HZm.out ?_; intro w2 hb2 hg2 hs2; rw [splice_all _ _ rfl] at hb2; have b2 : Below w1.heap.size w1 w2 := below_of_only ((Below.refl w1.heap.size w1).alloc (Nat.le_refl _) _) hg2 (by first | omega | (simp; done) | (simp; omega)) (by first | omega | (simp; done) | (simp; omega)))
    | fail "no arm")
  go_ret3
  exact ⟨rfl, b1.trans (b2.mono s1)⟩
/-- The first k things are done. -/
def stepAK (D : DiskV) (f m : Nat) (l : List Do8V) : Nat → DiskV
  | 0 => D
  | k + 1 => stepA (stepAK D f m l k) f m (l.getD k ⟨0, 0, 0, 0, []⟩)
theorem stepA_waits (D : DiskV) (f m : Nat) (x : Do8V) : (stepA D f m x).waits.length ≤ D.waits.length + 1 ∧ (stepA D f m x).many = D.many := by
  have hr : ∀ n, (aReadV D f m n).1.waits.length ≤ D.waits.length + 1 ∧ (aReadV D f m n).1.many = D.many := fun n => by
    unfold aReadV readV
    split
    · exact ⟨by simp, rfl⟩
    · split
      · exact ⟨by simp, rfl⟩
      · exact ⟨by simp [readV'], rfl⟩
  unfold stepA
  split
  · exact ⟨(aWriteV_many D f m x.n _).2, (aWriteV_many D f m x.n _).1⟩
  split
  · unfold flushV
    split
    · exact ⟨by simp, rfl⟩
    · split
      · exact ⟨by simp [goesV], rfl⟩
      · exact ⟨by simp [flushD], rfl⟩
  split
  · exact hr _
  split
  · exact ⟨(aWriteV_many D f m x.n _).2, (aWriteV_many D f m x.n _).1⟩
  split
  · unfold aPutV
    split
    · exact ⟨by simp, rfl⟩
    · exact ⟨(aWriteV_many D f m x.n _).2, (aWriteV_many D f m x.n _).1⟩
  split
  · exact hr _
  split
  · exact ⟨by simp [crashV], rfl⟩
  · exact ⟨by simp, rfl⟩
theorem stepAK_waits {D : DiskV} (f m : Nat) (l : List Do8V) : ∀ k, (stepAK D f m l k).waits.length ≤ D.waits.length + k ∧ (stepAK D f m l k).many = D.many := by
  intro k
  induction k with
  | zero => exact ⟨Nat.le_refl _, rfl⟩
  | succ k ih =>
    obtain ⟨h1, h2⟩ := stepA_waits (stepAK D f m l k) f m (l.getD k ⟨0, 0, 0, 0, []⟩)
    exact ⟨by show (stepA _ f m _).waits.length ≤ _; omega, h2.trans ih.2⟩
set_option maxRecDepth 100000 in
set_option maxHeartbeats 8000000 in
theorem walk_few (f m v : Int) (A0 : Option Addr) (n c : Nat) (l : List Do8V) (w : World) (hl : Dos8Rd w A0 n l) (hn : n ≤ maxLen) (h : few8B l = false) :
    Calls Try.prog 8 #[.agg #[.int .i64 f, .int .i64 m], .int .u8 v, .slice A0 n c] w fun e w' => e = .returned (.bool true) ∧ Below w.heap.size w w' := by
  have hf1 := fun w h => few8_any A0 n c l w h hn
  rw [h] at hf1
  clear h
  go_enter Try.func8, Try.ntmps8
  go_wp2_with (first
    | ((go_at_call 37; (with_reducible refine (awake8 _).mono ?_); rintro e w1 ⟨rfl, hb1⟩); have hx1 := Blk.below (w' := w1) (g := w.heap.size) (t := 69) (cs := [.int .i64 f, .int .i64 m]) (by (repeat' (first | (with_reducible assumption) | (with_reducible refine Blk.top _ (by first | rfl | omega | (simp; done) | (simp; omega)) rfl) | (with_reducible refine Blk.alloc ?_ _) | (with_reducible refine Blk.drew ?_) | (with_reducible refine Blk.drewN ?_ _) | (with_reducible refine Blk.far ?_ (by first | omega | (simp; done) | (simp; omega)) _)))) hb1 (by first | omega | (simp; done) | (simp; omega)); have X1 := Lib.hid hx1; have z0 : w1.cell? ⟨w.heap.size, 0, none⟩ = some (.int .i64 f) := hx1.cell 0; have z1 : w1.cell? ⟨w.heap.size, 1, none⟩ = some (.int .i64 m) := hx1.cell 1; have B1 := Lib.hid (below_then' (a := w) (B := w.heap.size) (by (repeat' (first | (with_reducible exact Below.refl _ _) | (with_reducible assumption) | (with_reducible refine Below.drew ?_) | (with_reducible refine below_drewN ?_ _) | (with_reducible refine Below.alloc ?_ ?_ _) | (with_reducible refine Below.setCell ?_ ?_ _) | omega | (simp; done) | (simp; omega)))) hb1 (by first | omega | (simp; done) | (simp; omega))); have s1 := B1.out.size; clear hb1 hx1)
    | ((go_at_call 39; (with_reducible refine (anew_nil _ _ _).mono ?_); rintro e w2 ⟨rfl, hb2⟩); have B2 := Lib.hid (B1.out.trans (hb2.mono s1)); have X2 := Lib.hid (X1.out.below hb2 X1.out.lt); have s2 := B2.out.size; clear hb2)
    | ((go_at_call 44; (with_reducible refine (atake_nil _ _ _).mono ?_); rintro e w3 ⟨rfl, hb3⟩); have B3 := Lib.hid (B2.out.trans (hb3.mono s2)); have X3 := Lib.hid (X2.out.below hb3 X2.out.lt); have s3 := B3.out.size; clear hb3)
    | (go_at_call 45; (with_reducible refine (many_nil _).mono ?_); rintro e w4 ⟨rfl, rfl⟩)
    | (go_at_call 42; (with_reducible refine (aput_nil _ _ _ _ _ _ _).mono ?_); rintro e w4 ⟨rfl, rfl⟩)
    | ((go_at_call 41; (with_reducible refine (awipe_nil _ _).mono ?_); rintro e w5 ⟨rfl, hb5⟩); have B5 := Lib.hid (B3.out.trans (hb5.mono s3)); have X5 := Lib.hid (X3.out.below hb5 X3.out.lt); have s5 := B5.out.size; clear hb5)
    | (go_at_call 43; (with_reducible refine (aflush_nil _).mono ?_); rintro e w6 ⟨rfl, rfl⟩)
    | ((go_at_call 38; (with_reducible refine (hf1 _ (hl.below B5.out (Nat.le_refl _))).mono ?_); rintro e w7 ⟨rfl, hb7⟩); have B7 := Lib.hid (B5.out.trans (hb7.mono s5)); have X7 := Lib.hid (X5.out.below hb7 X5.out.lt); have s7 := B7.out.size; have u0 : w7.cell? ⟨w.heap.size, 0, none⟩ = some (.int .i64 f) := X7.out.cell 0; have u1 : w7.cell? ⟨w.heap.size, 1, none⟩ = some (.int .i64 m) := X7.out.cell 1; clear hb7)
    | fail "no arm")
  go_ret
  exact ⟨rfl, B7.out⟩
set_option maxRecDepth 100000 in
set_option maxHeartbeats 8000000 in
theorem walk_bad (f m v : Int) (A0 : Option Addr) (n c : Nat) (l : List Do8V) (w : World) (hl : Dos8Rd w A0 n l) (hn : n ≤ maxLen) (h : few8B l = true) (hv0 : 0 ≤ v) (hv1 : v ≤ 255) (hf : f ≤ 9223372036854775807) (hf' : -9223372036854775808 ≤ f) (hb : f < 0 ∨ 12 ≤ f ∨ m < 1 ∨ 12 - f < m) :
    Calls Try.prog 8 #[.agg #[.int .i64 f, .int .i64 m], .int .u8 v, .slice A0 n c] w fun e w' => e = .returned (.bool true) ∧ Below w.heap.size w w' := by
  have hf1 := fun w h => few8_any A0 n c l w h hn
  rw [h] at hf1
  have hr0 : 0 ≤ v % 13 := by omega
  have hr1 : v % 13 ≤ 12 := by omega
  have cnew : ∀ w, Calls Try.prog 17 #[.int .i64 12, .int .i64 (v % 13)] w (NwPost w (newV 12 (v % 13))) := fun w => new_ok 12 (v % 13) w (by omega) (by omega) hr0 hr1
  have can : ∀ {w : World} {base : Nat} {p : DiskP} {A : Option Addr} {c : Nat}, DiskAt w base p A c (newV 12 (v % 13)) → Calls Try.prog 39 #[.pointer (some ⟨p.d, 0, none⟩), .agg #[.int .i64 f, .int .i64 m]] w fun e w' => e = .returned (.tuple #[.pointer none, .int .i64 2]) ∧ Below w.heap.size w w' := fun hd => anew_no hd f m hb hf
  generalize newV 12 (v % 13) = D0 at *
  clear h
  have hc : f < 0 ∨ (0 ≤ f ∧ 11 < f) ∨ (0 ≤ f ∧ f ≤ 11 ∧ m < 1) ∨ (0 ≤ f ∧ f ≤ 11 ∧ 1 ≤ m ∧ 12 - f < m) := by omega
  clear hb
  rcases hc with q1 | ⟨q1, q2⟩ | ⟨q1, q2, q3⟩ | ⟨q1, q2, q3, q4⟩
  all_goals
    go_enter Try.func8, Try.ntmps8
    go_wp2_with (first
      | ((go_at_call 37; (with_reducible refine (awake8 _).mono ?_); rintro e w1 ⟨rfl, hb1⟩); have hx1 := Blk.below (w' := w1) (g := w.heap.size) (t := 69) (cs := [.int .i64 f, .int .i64 m]) (by (repeat' (first | (with_reducible assumption) | (with_reducible refine Blk.top _ (by first | rfl | omega | (simp; done) | (simp; omega)) rfl) | (with_reducible refine Blk.alloc ?_ _) | (with_reducible refine Blk.drew ?_) | (with_reducible refine Blk.drewN ?_ _) | (with_reducible refine Blk.far ?_ (by first | omega | (simp; done) | (simp; omega)) _)))) hb1 (by first | omega | (simp; done) | (simp; omega)); have X1 := Lib.hid hx1; have z0 : w1.cell? ⟨w.heap.size, 0, none⟩ = some (.int .i64 f) := hx1.cell 0; have z1 : w1.cell? ⟨w.heap.size, 1, none⟩ = some (.int .i64 m) := hx1.cell 1; have B1 := Lib.hid (below_then' (a := w) (B := w.heap.size) (by (repeat' (first | (with_reducible exact Below.refl _ _) | (with_reducible assumption) | (with_reducible refine Below.drew ?_) | (with_reducible refine below_drewN ?_ _) | (with_reducible refine Below.alloc ?_ ?_ _) | (with_reducible refine Below.setCell ?_ ?_ _) | omega | (simp; done) | (simp; omega)))) hb1 (by first | omega | (simp; done) | (simp; omega))); have s1 := B1.out.size; clear hb1 hx1)
      | ((go_at_call 39; (with_reducible refine (anew_nil _ _ _).mono ?_); rintro e w2 ⟨rfl, hb2⟩); have B2 := Lib.hid (B1.out.trans (hb2.mono s1)); have X2 := Lib.hid (X1.out.below hb2 X1.out.lt); have s2 := B2.out.size; clear hb2)
      | ((go_at_call 44; (with_reducible refine (atake_nil _ _ _).mono ?_); rintro e w3 ⟨rfl, hb3⟩); have B3 := Lib.hid (B2.out.trans (hb3.mono s2)); have X3 := Lib.hid (X2.out.below hb3 X2.out.lt); have s3 := B3.out.size; clear hb3)
      | (go_at_call 45; (with_reducible refine (many_nil _).mono ?_); rintro e w4 ⟨rfl, rfl⟩)
      | (go_at_call 42; (with_reducible refine (aput_nil _ _ _ _ _ _ _).mono ?_); rintro e w4 ⟨rfl, rfl⟩)
      | ((go_at_call 41; (with_reducible refine (awipe_nil _ _).mono ?_); rintro e w5 ⟨rfl, hb5⟩); have B5 := Lib.hid (B3.out.trans (hb5.mono s3)); have X5 := Lib.hid (X3.out.below hb5 X3.out.lt); have s5 := B5.out.size; clear hb5)
      | (go_at_call 43; (with_reducible refine (aflush_nil _).mono ?_); rintro e w6 ⟨rfl, rfl⟩)
      | ((go_at_call 38; (with_reducible refine (hf1 _ (hl.below B5.out (Nat.le_refl _))).mono ?_); rintro e w7 ⟨rfl, hb7⟩); have B7 := Lib.hid (B5.out.trans (hb7.mono s5)); have X7 := Lib.hid (X5.out.below hb7 X5.out.lt); have s7 := B7.out.size; have u0 : w7.cell? ⟨w.heap.size, 0, none⟩ = some (.int .i64 f) := X7.out.cell 0; have u1 : w7.cell? ⟨w.heap.size, 1, none⟩ = some (.int .i64 m) := X7.out.cell 1; clear hb7)
      | ((go_at_call 17; (with_reducible refine (cnew _).mono ?_); rintro e w8 ⟨p, rfl, hd8, hb8⟩); have D8 := Lib.hid hd8; have B8 := Lib.hid (B7.out.trans (hb8.mono s7)); have X8 := Lib.hid (X7.out.below hb8 X7.out.lt); have s8 := B8.out.size; have t0 : w8.cell? ⟨w.heap.size, 0, none⟩ = some (.int .i64 f) := X8.out.cell 0; have t1 : w8.cell? ⟨w.heap.size, 1, none⟩ = some (.int .i64 m) := X8.out.cell 1; clear hd8 hb8)
      | ((go_at_call 39; (with_reducible refine (can D8.out).mono ?_); rintro e w9 ⟨rfl, hb9⟩); have B9 := Lib.hid (B8.out.trans (hb9.mono s8)); have X9 := Lib.hid (X8.out.below hb9 X8.out.lt); have r0 : w9.cell? ⟨w.heap.size, 0, none⟩ = some (.int .i64 f) := X9.out.cell 0; have r1 : w9.cell? ⟨w.heap.size, 1, none⟩ = some (.int .i64 m) := X9.out.cell 1; clear hb9)
      | fail "no arm")
    go_ret
    exact ⟨rfl, B9.out⟩
/-- Where the loop begins. -/
def StartA (w7 : World) (p : DiskP) (ga f m : Nat) (D : DiskV) (t : Value) (w : World) : Prop := ∃ (q : RDiskP) (g : Nat), t = .pointer (some ⟨g, 0, none⟩) ∧ Both w w7.heap.size p q D ∧ AreaAt w ga p.d f m ∧ Blk w g 84 [.pointer (some ⟨q.d, 0, none⟩), .int .i64 (f : Nat), .int .i64 (m : Nat)] ∧ Below w7.heap.size w7 w
theorem dos8_nth {w : World} {A : Option Addr} {n k : Nat} {l : List Do8V} (h : Dos8Rd w A n l) (hk : k < n) : l[k]? = some (l.getD k ⟨0, 0, 0, 0, []⟩) := by
  have : k < l.length := by rw [h.1]; exact hk
  rw [List.getD_eq_getElem?_getD, List.getElem?_eq_getElem this]; rfl
set_option maxRecDepth 100000 in
set_option maxHeartbeats 20000000 in
theorem walk_main (f m : Nat) (v : Int) (A0 : Option Addr) (n c : Nat) (l : List Do8V) (w : World) (hl : Dos8Rd w A0 n l) (hn : n ≤ maxLen) (h : few8B l = true) (hv0 : 0 ≤ v) (hv1 : v ≤ 255) (h1 : 1 ≤ m) (h2 : f + m ≤ 12) :
    Calls Try.prog 8 #[.agg #[.int .i64 (f : Nat), .int .i64 (m : Nat)], .int .u8 v, .slice A0 n c] w fun e w' => e = .returned (.bool true) ∧ Below w.heap.size w w' := by
  have hq := few8B_true h
  rw [hl.1] at hq
  obtain ⟨hn40, hsm⟩ := hq
  have hf1 := fun w h => few8_any A0 n c l w h hn
  rw [h] at hf1
  have hr0 : 0 ≤ v % 13 := by omega
  have hr1 : v % 13 ≤ 12 := by omega
  have cnew : ∀ w, Calls Try.prog 17 #[.int .i64 12, .int .i64 (v % 13)] w (NwPost w (newV 12 (v % 13))) := fun w => new_ok 12 (v % 13) w (by omega) (by omega) hr0 hr1
  have can : ∀ {w : World} {base : Nat} {p : DiskP} {A : Option Addr} {c : Nat}, DiskAt w base p A c (newV 12 (v % 13)) → Calls Try.prog 39 #[.pointer (some ⟨p.d, 0, none⟩), .agg #[.int .i64 (f : Nat), .int .i64 (m : Nat)]] w fun e w' => ∃ ga, e = .returned (.tuple #[.pointer (some ⟨ga, 0, none⟩), .int .i64 0]) ∧ AreaAt w' ga p.d f m ∧ w.heap.size ≤ ga ∧ Below w.heap.size w w' := fun hd => anew_ok hd f m h1 h2
  have rn := fun w => (show Calls Try.prog 46 #[.int .i64 12, .int .i64 (v % 13)] w fun e w' => ∃ d go KA IA ck ci gs, e = .returned (.pointer (some ⟨d, 0, none⟩)) ∧ gs.length = 12 ∧ RNewAt w' w.heap.size d go KA IA ck ci gs (List.replicate (12 * 128) 0) (List.replicate 12 false) (v % 13) ∧ Below w.heap.size w w' from rnew_any 12 (v % 13) w (by omega))
  have HW0 := Lib.hid (show (newV 12 (v % 13)).waits.length = 0 from rfl)
  have HM0 := Lib.hid (show (newV 12 (v % 13)).many = 12 from rfl)
  have rdk : ∀ {w : World} {base d go gk gi ck ci : Nat} {gs : List Nat}, gs.length = 12 → RNewAt w base d go (some ⟨gk, 0, none⟩) (some ⟨gi, 0, none⟩) ck ci gs (List.replicate (12 * 128) 0) (List.replicate 12 false) (v % 13) → RDiskS w base ⟨d, gk, gi, go⟩ (newV 12 (v % 13)) := fun hg hR => by
    rw [← loadD_zero 12 (v % 13) []]
    exact ⟨none, 0, _, _, RNewAt.disk (k := 0) (many := 12) (img := []) (by rw [imgK_zero, show trueK 12 0 = List.replicate 12 false from by simp [trueK]]; exact hR) hg (by omega) (by omega) hr0 hr1 (by simp) (by omega)⟩
  have RDK := Lib.hid (fun (w : World) (base d go gk gi ck ci : Nat) (gs : List Nat) (a : gs.length = 12) (b : RNewAt w base d go (some ⟨gk, 0, none⟩) (some ⟨gi, 0, none⟩) ck ci gs (List.replicate (12 * 128) 0) (List.replicate 12 false) (v % 13)) => rdk a b)
  have RN := Lib.hid rn
  generalize newV 12 (v % 13) = D0 at *
  have fI : ((f : Nat) : Int) ≤ 11 := by omega
  have mI : (1 : Int) ≤ (m : Nat) := by omega
  have fmI : ((m : Nat) : Int) ≤ 12 - (f : Nat) := by omega
  clear h hsm rn rdk
  go_enter Try.func8, Try.ntmps8
  go_upto_region 16 with (first
    | ((go_at_call 37; (with_reducible refine (awake8 _).mono ?_); rintro e w1 ⟨rfl, hb1⟩); have hx1 := Blk.below (w' := w1) (g := w.heap.size) (t := 69) (cs := [.int .i64 (f : Nat), .int .i64 (m : Nat)]) (by (repeat' (first | (with_reducible assumption) | (with_reducible refine Blk.top _ (by first | rfl | omega | (simp; done) | (simp; omega)) rfl) | (with_reducible refine Blk.alloc ?_ _) | (with_reducible refine Blk.drew ?_) | (with_reducible refine Blk.drewN ?_ _) | (with_reducible refine Blk.far ?_ (by first | omega | (simp; done) | (simp; omega)) _)))) hb1 (by first | omega | (simp; done) | (simp; omega)); have X1 := Lib.hid hx1; have z0 : w1.cell? ⟨w.heap.size, 0, none⟩ = some (.int .i64 (f : Nat)) := hx1.cell 0; have z1 : w1.cell? ⟨w.heap.size, 1, none⟩ = some (.int .i64 (m : Nat)) := hx1.cell 1; have B1 := Lib.hid (below_then' (a := w) (B := w.heap.size) (by (repeat' (first | (with_reducible exact Below.refl _ _) | (with_reducible assumption) | (with_reducible refine Below.drew ?_) | (with_reducible refine below_drewN ?_ _) | (with_reducible refine Below.alloc ?_ ?_ _) | (with_reducible refine Below.setCell ?_ ?_ _) | omega | (simp; done) | (simp; omega)))) hb1 (by first | omega | (simp; done) | (simp; omega))); have s1 := B1.out.size; clear hb1 hx1)
    | ((go_at_call 39; (with_reducible refine (anew_nil _ _ _).mono ?_); rintro e w2 ⟨rfl, hb2⟩); have B2 := Lib.hid (B1.out.trans (hb2.mono s1)); have X2 := Lib.hid (X1.out.below hb2 X1.out.lt); have s2 := B2.out.size; clear hb2)
    | ((go_at_call 44; (with_reducible refine (atake_nil _ _ _).mono ?_); rintro e w3 ⟨rfl, hb3⟩); have B3 := Lib.hid (B2.out.trans (hb3.mono s2)); have X3 := Lib.hid (X2.out.below hb3 X2.out.lt); have s3 := B3.out.size; clear hb3)
    | (go_at_call 45; (with_reducible refine (many_nil _).mono ?_); rintro e w4 ⟨rfl, rfl⟩)
    | (go_at_call 42; (with_reducible refine (aput_nil _ _ _ _ _ _ _).mono ?_); rintro e w4 ⟨rfl, rfl⟩)
    | ((go_at_call 41; (with_reducible refine (awipe_nil _ _).mono ?_); rintro e w5 ⟨rfl, hb5⟩); have B5 := Lib.hid (B3.out.trans (hb5.mono s3)); have X5 := Lib.hid (X3.out.below hb5 X3.out.lt); have s5 := B5.out.size; clear hb5)
    | (go_at_call 43; (with_reducible refine (aflush_nil _).mono ?_); rintro e w6 ⟨rfl, rfl⟩)
    | ((go_at_call 38; (with_reducible refine (hf1 _ (hl.below B5.out (Nat.le_refl _))).mono ?_); rintro e w7 ⟨rfl, hb7⟩); have B7 := Lib.hid (B5.out.trans (hb7.mono s5)); have X7 := Lib.hid (X5.out.below hb7 X5.out.lt); have s7 := B7.out.size; have u0 : w7.cell? ⟨w.heap.size, 0, none⟩ = some (.int .i64 (f : Nat)) := X7.out.cell 0; have u1 : w7.cell? ⟨w.heap.size, 1, none⟩ = some (.int .i64 (m : Nat)) := X7.out.cell 1; clear hb7)
    | ((go_at_call 17; (with_reducible refine (cnew _).mono ?_); rintro e w8 ⟨p, rfl, hd8, hb8⟩); have D8 := Lib.hid hd8; have b8 := Lib.hid hb8; have B8 := Lib.hid (B7.out.trans (hb8.mono s7)); have X8 := Lib.hid (X7.out.below hb8 X7.out.lt); have s8 := B8.out.size; have t0 : w8.cell? ⟨w.heap.size, 0, none⟩ = some (.int .i64 (f : Nat)) := X8.out.cell 0; have t1 : w8.cell? ⟨w.heap.size, 1, none⟩ = some (.int .i64 (m : Nat)) := X8.out.cell 1; clear hd8 hb8)
    | ((go_at_call 39; (with_reducible refine (can D8.out).mono ?_); rintro e w9 ⟨ga, rfl, ha9, _, hb9⟩); have D9 := Lib.hid (D8.out.below hb9); have A9 := Lib.hid ha9; have B9 := Lib.hid (b8.out.trans (hb9.mono b8.out.size)); have X9 := Lib.hid (X8.out.below hb9 X8.out.lt); have r0 : w9.cell? ⟨w.heap.size, 0, none⟩ = some (.int .i64 (f : Nat)) := X9.out.cell 0; have r1 : w9.cell? ⟨w.heap.size, 1, none⟩ = some (.int .i64 (m : Nat)) := X9.out.cell 1; clear ha9 hb9)
    | fail "no arm")
  have hmany := fun nq => many_any (w := w9.drewN nq) (ga := ga) (d := p.d) (f := f) (m := m) (Blk.drewN A9.out nq)
  go_quiet ((go_at_call 45; exact Calls.quiet_of_same ((hmany _).mono fun e w' ⟨h1, h2⟩ => ⟨h1, h2.symm⟩)))
  go_upto_region 18 with fail
  refine code_world (fun W => DiskAt W w7.heap.size p none 0 D0 ∧ AreaAt W ga p.d f m ∧ Blk W w.heap.size 69 [.int .i64 (f : Nat), .int .i64 (m : Nat)] ∧ Below w7.heap.size w7 W) ⟨D9.out.drewN _, Blk.drewN A9.out _, Blk.drewN X9.out _, below_drewN B9.out _⟩ ?_
  clear t0 t1 r0 r1 u0 u1 hmany
  intro w10 ⟨hd10, ha10, hx10, hb10⟩
  have q0 : w10.cell? ⟨w.heap.size, 0, none⟩ = some (.int .i64 (f : Nat)) := hx10.cell 0
  have q1 : w10.cell? ⟨w.heap.size, 1, none⟩ = some (.int .i64 (m : Nat)) := hx10.cell 1
  have RD := Lib.hid (hl.below B7.out (Nat.le_refl _))
  generalize hgsE : w.heap.size = gs at *
  have EQ := Lib.hid hgsE
  clear hgsE
  go_cut [17] (fun t wx => StartA w7 p ga f m D0 t wx)
  case first =>
    have HD10 := Lib.hid hd10
    have HA10 := Lib.hid ha10
    have HX10 := Lib.hid hx10
    have HB10 := Lib.hid hb10
    have ls := hx10.lt
    have htm : v.tmod 13 = v % 13 := Int.tmod_eq_emod_of_nonneg hv0
    have hwm : IntKind.i64.wrap (v % 13) = v % 13 := IntWalk.i64_in _ (by omega)
    clear hd10 ha10 hx10 hb10
    refine wp_region_held_drew (S := fun w' => w'.cell? ⟨gs, 0, none⟩ = some (.int .i64 (f : Nat)) ∧ w'.cell? ⟨gs, 1, none⟩ = some (.int .i64 (m : Nat))) (by kernel_rfl) ⟨q0, q1⟩ (fun hHeld => ?_)
    refine wpAnyH_take (i := 0) (v := ?_) rfl (by decide +kernel) (by decide +kernel) (by decide +kernel) (fun _ _ _ h => h) (Or.inl ⟨by rfl, ?_⟩) (by assumption) ?_
    rotate_left 1
    · (intro w hSw; (try dsimp only at hSw); go_simp; try (with_reducible rfl))
    try simp only [List.getElem_toArray, List.getElem_cons_zero, List.getElem_cons_succ, Act.put, List.setIfInBounds_toArray, List.set_cons_zero, List.set_cons_succ]
    refine wpAnyH_take (i := 1) (v := ?_) rfl (by decide +kernel) (by decide +kernel) (by decide +kernel) (fun _ _ _ h => h) (Or.inl ⟨by rfl, ?_⟩) (by assumption) ?_
    rotate_left 1
    · (intro w hSw; (try dsimp only at hSw); go_simp; try (with_reducible rfl))
    try simp only [List.getElem_toArray, List.getElem_cons_zero, List.getElem_cons_succ, Act.put, List.setIfInBounds_toArray, List.set_cons_zero, List.set_cons_succ]
    refine wpAnyH_take (i := 2) (v := ?_) rfl (by decide +kernel) (by decide +kernel) (by decide +kernel) (fun _ _ _ h => h) (Or.inl ⟨by rfl, ?_⟩) (by assumption) ?_
    rotate_left 1
    · (intro w hSw; (try dsimp only at hSw); go_simp; try (with_reducible rfl))
    try simp only [List.getElem_toArray, List.getElem_cons_zero, List.getElem_cons_succ, Act.put, List.setIfInBounds_toArray, List.set_cons_zero, List.set_cons_succ]
    refine wpAnyH_take (i := 4) (v := ?_) rfl (by decide +kernel) (by decide +kernel) (by decide +kernel) (fun _ _ _ h => h) (Or.inl ⟨by rfl, ?_⟩) (by assumption) ?_
    rotate_left 1
    · (intro w hSw; (try dsimp only at hSw); go_simp; try (with_reducible rfl))
    try simp only [List.getElem_toArray, List.getElem_cons_zero, List.getElem_cons_succ, Act.put, List.setIfInBounds_toArray, List.set_cons_zero, List.set_cons_succ]
    refine wpAnyH_take (i := 5) (v := ?_) rfl (by decide +kernel) (by decide +kernel) (by decide +kernel) (fun _ _ _ h => h) (Or.inl ⟨by rfl, ?_⟩) (by assumption) ?_
    rotate_left 1
    · (intro w hSw; (try dsimp only at hSw); obtain ⟨s1, s2⟩ := hSw; go_simp; rfl)
    try simp only [List.getElem_toArray, List.getElem_cons_zero, List.getElem_cons_succ, Act.put, List.setIfInBounds_toArray, List.set_cons_zero, List.set_cons_succ]
    refine wpAnyH_take (i := 6) (v := ?_) rfl (by decide +kernel) (by decide +kernel) (by decide +kernel) (fun _ _ _ h => h) (Or.inl ⟨by rfl, ?_⟩) (by assumption) ?_
    rotate_left 1
    · (intro w hSw; (try dsimp only at hSw); go_simp; try (with_reducible rfl))
    try simp only [List.getElem_toArray, List.getElem_cons_zero, List.getElem_cons_succ, Act.put, List.setIfInBounds_toArray, List.set_cons_zero, List.set_cons_succ]
    refine wpAnyH_take (i := 7) (v := ?_) rfl (by decide +kernel) (by decide +kernel) (by decide +kernel) (fun _ _ _ h => h) (Or.inl ⟨by rfl, ?_⟩) (by assumption) ?_
    rotate_left 1
    · (intro w hSw; (try dsimp only at hSw); obtain ⟨s1, s2⟩ := hSw; go_simp; rfl)
    try simp only [List.getElem_toArray, List.getElem_cons_zero, List.getElem_cons_succ, Act.put, List.setIfInBounds_toArray, List.set_cons_zero, List.set_cons_succ]
    refine wpAnyH_ready (rs := [3, 9]) (by decide +kernel) (by simp) ?_
    refine AllReadyH.cons rfl (fun K hK => ?_) (AllReadyH.cons rfl (fun K hK => ?_) AllReadyH.nil)
    · go_simp
      (go_at_call 46; (with_reducible refine (RN.out _).mono ?_); rintro e w11 ⟨dd, go, KA, IA, ck, ci, gl, rfl, hgs, hR, hb11⟩)
      have X11 := HX10.out.drew.below hb11 ls
      refine hK.out _ _ (⟨X11.cell 0, X11.cell 1⟩) (fun hHeld => ?_)
      clear hK K
      try simp only [List.getElem_toArray, List.getElem_cons_zero, List.getElem_cons_succ, Act.put, List.setIfInBounds_toArray, List.set_cons_zero, List.set_cons_succ]
      refine wpAnyH_take (i := 8) (v := ?_) rfl (by decide +kernel) (by decide +kernel) (by decide +kernel) (fun _ _ _ h => h) (Or.inl ⟨by rfl, ?_⟩) (by assumption) ?_
      rotate_left 1
      · (intro w hSw; (try dsimp only at hSw); go_simp; try (with_reducible rfl))
      try simp only [List.getElem_toArray, List.getElem_cons_zero, List.getElem_cons_succ, Act.put, List.setIfInBounds_toArray, List.set_cons_zero, List.set_cons_succ]
      refine wpAnyH_ready (rs := [9]) (by decide +kernel) (by simp) ?_
      refine AllReadyH.cons rfl (fun K hK => ?_) AllReadyH.nil
      go_simp
      have X12 := X11.alloc (.cells #[.pointer none, .int .i64 0, .int .i64 0] 84)
      refine hK.out _ _ (⟨X12.cell 0, X12.cell 1⟩) (fun hHeld => ?_)
      clear hK K
      try simp only [List.getElem_toArray, List.getElem_cons_zero, List.getElem_cons_succ, Act.put, List.setIfInBounds_toArray, List.set_cons_zero, List.set_cons_succ]
      refine wpAnyH_ready (rs := [10]) (by decide +kernel) (by simp) ?_
      refine AllReadyH.cons rfl (fun K hK => ?_) AllReadyH.nil
      go_simp
      obtain ⟨gk, hKA, _, _⟩ := hR.kept.addr (by rw [hgs]; omega)
      obtain ⟨gi, hIA, hgi, _⟩ := hR.inu.addr (by rw [hgs]; omega)
      subst hKA hIA
      have hgi2 : w10.heap.size ≤ gi := hgi
      have sz10 := HB10.out.size
      have R11 := RDK.out _ w7.heap.size _ _ _ _ _ _ _ hgs (hR.rebase (show w7.heap.size ≤ w10.drew.heap.size from sz10))
      have D11 := (HD10.out.drewN 1).below hb11
      have A11 := Blk.below (Blk.drew HA10.out) hb11 (Blk.lt HA10.out)
      have bW : Below w11.heap.size w11 (w11.alloc (.cells #[.pointer (some ⟨dd, 0, none⟩), .int .i64 (f : Nat), .int .i64 (m : Nat)] 84)) := (Below.refl _ _).alloc (Nat.le_refl _) _
      have X13 := X11.below bW X11.lt
      refine hK.out _ _ (⟨X13.cell 0, X13.cell 1⟩) (fun hHeld => ?_)
      clear hK K
      try simp only [List.getElem_toArray, List.getElem_cons_zero, List.getElem_cons_succ, Act.put, List.setIfInBounds_toArray, List.set_cons_zero, List.set_cons_succ]
      refine wpAnyH_done (by decide +kernel) ?_ _
      have hn12 : gi ≠ p.gi ∧ gi ≠ p.gm := by
        have e1 := HD10.out.lt p.gi (.inr (.inr (.inr (.inl rfl))))
        have e2 := HD10.out.lt p.gm (.inr (.inr (.inr (.inr (.inl rfl)))))
        omega
      have SA := Lib.hid (show StartA w7 p ga f m D0 (.pointer (some ⟨w11.heap.size, 0, none⟩)) (w11.alloc (.cells #[.pointer (some ⟨dd, 0, none⟩), .int .i64 (f : Nat), .int .i64 (m : Nat)] 84)) from
        ⟨⟨dd, gk, gi, go⟩, _, rfl, ⟨⟨_, _, D11.below bW⟩, R11.below bW, hn12.1, hn12.2⟩, Blk.below A11 bW (Blk.lt A11), Blk.top w11 rfl rfl, ((HB10.out.drew).trans (hb11.mono sz10)).trans (bW.mono (Nat.le_trans sz10 hb11.size))⟩)
      clear hHeld X11 X12 X13 bW A11 D11 R11 hb11 hR q0 q1
      go_wp2_with fail
      go_meet
      exact SA.out
    · go_simp
      have X11 := (HX10.out.alloc (.cells #[.pointer none, .int .i64 0, .int .i64 0] 84)).drew
      refine hK.out _ _ (⟨X11.cell 0, X11.cell 1⟩) (fun hHeld => ?_)
      clear hK K
      try simp only [List.getElem_toArray, List.getElem_cons_zero, List.getElem_cons_succ, Act.put, List.setIfInBounds_toArray, List.set_cons_zero, List.set_cons_succ]
      refine wpAnyH_ready (rs := [3]) (by decide +kernel) (by simp) ?_
      refine AllReadyH.cons rfl (fun K hK => ?_) AllReadyH.nil
      go_simp
      (go_at_call 46; (with_reducible refine (RN.out _).mono ?_); rintro e w11 ⟨dd, go, KA, IA, ck, ci, gl, rfl, hgs, hR, hb11⟩)
      have X12 := X11.below hb11 X11.lt
      refine hK.out _ _ (⟨X12.cell 0, X12.cell 1⟩) (fun hHeld => ?_)
      clear hK K
      try simp only [List.getElem_toArray, List.getElem_cons_zero, List.getElem_cons_succ, Act.put, List.setIfInBounds_toArray, List.set_cons_zero, List.set_cons_succ]
      refine wpAnyH_take (i := 8) (v := ?_) rfl (by decide +kernel) (by decide +kernel) (by decide +kernel) (fun _ _ _ h => h) (Or.inl ⟨by rfl, ?_⟩) (by assumption) ?_
      rotate_left 1
      · (intro w hSw; (try dsimp only at hSw); go_simp; try (with_reducible rfl))
      try simp only [List.getElem_toArray, List.getElem_cons_zero, List.getElem_cons_succ, Act.put, List.setIfInBounds_toArray, List.set_cons_zero, List.set_cons_succ]
      refine wpAnyH_ready (rs := [10]) (by decide +kernel) (by simp) ?_
      refine AllReadyH.cons rfl (fun K hK => ?_) AllReadyH.nil
      have V12 := (Blk.drew (Blk.top (g := w10.heap.size) (t := 84) (cs := [.pointer none, .int .i64 0, .int .i64 0]) w10 rfl rfl)).below hb11 (by simp)
      have g0 := V12.cell 0
      have g1 := V12.cell 1
      have g2 := V12.cell 2
      have gf := V12.frozen
      have gl1 := V12.lt
      go_simp
      obtain ⟨gk, hKA, _, _⟩ := hR.kept.addr (by rw [hgs]; omega)
      obtain ⟨gi, hIA, hgi, _⟩ := hR.inu.addr (by rw [hgs]; omega)
      subst hKA hIA
      have hgi2 : w10.heap.size + 1 ≤ gi := by simpa using hgi
      have sz10 := HB10.out.size
      have R11 := RDK.out _ w7.heap.size _ _ _ _ _ _ _ hgs (hR.rebase (by simp; omega))
      have D11 := ((HD10.out.alloc (.cells #[.pointer none, .int .i64 0, .int .i64 0] 84)).drewN 1).below hb11
      have A11 := Blk.below (Blk.drew (Blk.alloc HA10.out (.cells #[.pointer none, .int .i64 0, .int .i64 0] 84))) hb11 (by have := Blk.lt HA10.out; simp; omega)
      have hs11 : w7.heap.size ≤ w11.heap.size := by have := hb11.size; simp at this; omega
      have B11 : Below w7.heap.size w7 w11 := (((HB10.out).alloc sz10 (.cells #[.pointer none, .int .i64 0, .int .i64 0] 84)).drew).trans (hb11.mono (by simp; omega))
      have st1 : Step [84] w7.heap.size p w11 (w11.setCell ⟨w10.heap.size, 0, none⟩ (.pointer (some ⟨dd, 0, none⟩))) := Step.one (grown_setCell _) V12 (by decide) sz10 hs11
      have st2 : Step [84] w7.heap.size p (w11.setCell ⟨w10.heap.size, 0, none⟩ (.pointer (some ⟨dd, 0, none⟩))) ((w11.setCell ⟨w10.heap.size, 0, none⟩ (.pointer (some ⟨dd, 0, none⟩))).setCell ⟨w10.heap.size, 1, none⟩ (.int .i64 (f : Nat))) := Step.one (grown_setCell _) (V12.set_ 0 _) (by decide) sz10 (Nat.le_trans hs11 st1.size)
      have st3 : Step [84] w7.heap.size p ((w11.setCell ⟨w10.heap.size, 0, none⟩ (.pointer (some ⟨dd, 0, none⟩))).setCell ⟨w10.heap.size, 1, none⟩ (.int .i64 (f : Nat))) (((w11.setCell ⟨w10.heap.size, 0, none⟩ (.pointer (some ⟨dd, 0, none⟩))).setCell ⟨w10.heap.size, 1, none⟩ (.int .i64 (f : Nat))).setCell ⟨w10.heap.size, 2, none⟩ (.int .i64 (m : Nat))) := Step.one (grown_setCell _) ((V12.set_ 0 _).set_ 1 _) (by decide) sz10 (Nat.le_trans hs11 (st1.trans st2).size)
      have st := (st1.trans st2).trans st3
      have kW := (((Keep.refl (fun g => g = w10.heap.size) w11).set_ (i := 0) (.pointer (some ⟨dd, 0, none⟩)) rfl).set_ (i := 1) (.int .i64 (f : Nat)) rfl).set_ (i := 2) (.int .i64 (m : Nat)) rfl
      have D12 := D11.keep kW (fun g hg e => by subst e; rcases D11.foot_ty V12 hg with q | q | q | q | q <;> exact absurd q (by decide))
      have hn12 : gi ≠ p.gi ∧ gi ≠ p.gm := by
        have e1 := HD10.out.lt p.gi (.inr (.inr (.inr (.inl rfl))))
        have e2 := HD10.out.lt p.gm (.inr (.inr (.inr (.inr (.inl rfl)))))
        omega
      have R12 := R11.step ⟨_, _, D11⟩ st hn12.1 hn12.2 (by decide) (by decide)
      have V15 := ((V12.set_ 0 (.pointer (some ⟨dd, 0, none⟩))).set_ 1 (.int .i64 (f : Nat))).set_ 2 (.int .i64 (m : Nat))
      have A15 := DiskS.area ⟨_, _, D11⟩ A11 st.tch (by decide)
      have hgsne : gs ≠ w10.heap.size := by omega
      have X15 := ((X12.far (p := ⟨w10.heap.size, 0, none⟩) hgsne (.pointer (some ⟨dd, 0, none⟩))).far (p := ⟨w10.heap.size, 1, none⟩) hgsne (.int .i64 (f : Nat))).far (p := ⟨w10.heap.size, 2, none⟩) hgsne (.int .i64 (m : Nat))
      refine hK.out _ _ (⟨X15.cell 0, X15.cell 1⟩) (fun hHeld => ?_)
      clear hK K
      try simp only [List.getElem_toArray, List.getElem_cons_zero, List.getElem_cons_succ, Act.put, List.setIfInBounds_toArray, List.set_cons_zero, List.set_cons_succ]
      refine wpAnyH_done (by decide +kernel) ?_ _
      have SA : StartA w7 p ga f m D0 (.pointer (some ⟨w10.heap.size, 0, none⟩)) (((w11.setCell ⟨w10.heap.size, 0, none⟩ (.pointer (some ⟨dd, 0, none⟩))).setCell ⟨w10.heap.size, 1, none⟩ (.int .i64 (f : Nat))).setCell ⟨w10.heap.size, 2, none⟩ (.int .i64 (m : Nat))) :=
        ⟨⟨dd, gk, gi, go⟩, _, rfl, ⟨⟨_, _, D12⟩, R12, hn12.1, hn12.2⟩, A15, V15, B11.trans st.bel⟩
      have HSA := Lib.hid SA
      clear hHeld X11 X12 X15 V12 V15 A11 A15 D11 D12 R11 R12 hb11 hR q0 q1 g0 g1 g2 gf gl1 st st1 st2 st3 kW B11 SA
      go_wp2_with fail
      go_meet
      exact HSA.out
  case rest =>
    obtain ⟨q, g, rfl, hB0, hA0, hV0, hbel0⟩ := hcut
    have HB0 := Lib.hid hB0
    have HA0 := Lib.hid hA0
    have HV0 := Lib.hid hV0
    have HBEL0 := Lib.hid hbel0
    have n1 := hB0.n1
    have n2 := hB0.n2
    clear hB0 hA0 hV0 hbel0 hd10 ha10 hx10 hb10 q0 q1
    go_wp2_with fail
    go_loopw [19, 124] (fun _ i wr => ∃ k : Nat, k ≤ n ∧ i = .int .i64 (k : Nat) ∧ Both wr w7.heap.size p q (stepAK D0 f m l k) ∧ AreaAt wr ga p.d f m ∧ Blk wr g 84 [.pointer (some ⟨q.d, 0, none⟩), .int .i64 (f : Nat), .int .i64 (m : Nat)] ∧ Below w7.heap.size w7 wr) (fun _ i _ => n - (intOf i).toNat)
    case atStart => exact ⟨0, by omega, rfl, HB0.out, HA0.out, HV0.out, HBEL0.out⟩
    case round =>
      obtain ⟨k, hk, rfl, hB, hA, hV, hbel⟩ := hrel
      have hbs := hbel.size
      have v0 : wr.cell? ⟨g, 0, none⟩ = some (.pointer (some ⟨q.d, 0, none⟩)) := hV.cell 0
      have v1 : wr.cell? ⟨g, 1, none⟩ = some (.int .i64 (f : Nat)) := hV.cell 1
      have v2 : wr.cell? ⟨g, 2, none⟩ = some (.int .i64 (m : Nat)) := hV.cell 2
      have lg := hV.lt
      have hsk := stepAK_waits (D := D0) f m l k
      rw [HM0.out] at hsk
      have hw00 := HW0.out
      by_cases hlt : k < n
      · obtain ⟨b, o, B, mm, d, hA9, hr, hmd, hdm, hxn, hxm, hxk, hget⟩ := (show Dos8Rd w7 A0 n l from RD.out).get (dos8_nth (show Dos8Rd w7 A0 n l from RD.out) hlt)
        obtain ⟨hb, e0, e1, e2, e3, e4⟩ := hget wr _ hbel (Nat.le_refl _)
        have hst : Hid (stepAK D0 f m l (k + 1) = stepA (stepAK D0 f m l k) f m (l.getD k ⟨0, 0, 0, 0, []⟩)) := rfl
        generalize l.getD k ⟨0, 0, 0, 0, []⟩ = x at *
        have bW : Below wr.heap.size wr (wr.alloc (.cells #[.int .i64 x.kind, .int .i64 x.n, .int .i64 x.k, .int .i64 x.m, .slice B mm d] 76)) := (Below.refl _ _).alloc (Nat.le_refl _) _
        have hlow : 0 < mm → ∀ g, B.map (·.block) = some g → g < w7.heap.size := fun h0 g hg => by
          obtain ⟨b9, o9, e9, h9, _⟩ := hr.2 h0
          rw [e9] at hg
          simp only [Option.map_some, Option.some.injEq] at hg
          omega
        have sW : w7.heap.size ≤ (wr.alloc (.cells #[.int .i64 x.kind, .int .i64 x.n, .int .i64 x.k, .int .i64 x.m, .slice B mm d] 76)).heap.size := by have := bW.size; omega
        have c1 := one8_any (f := f) (m := m) (D := stepAK D0 f m l k) ⟨hB.d.below bW, hB.r.below bW, n1, n2⟩ (Blk.below hA bW (Blk.lt hA)) sW (by rw [hsk.2]; exact h2) x B mm d (hr.below (hbel.trans (bW.mono hbs)) (Nat.le_refl _)) hlow (by omega) hxm.2 (by have := hsk.1; omega)
        have VW := Lib.hid (hV.below bW lg)
        have BW := Lib.hid (hbel.trans (bW.mono hbs))
        generalize stepA (stepAK D0 f m l k) f m x = D' at *
        clear hB hA hV hbel hr hlow hget hsk bW
        subst hA9
        go_wp2_with (first
          | ((go_at_call 47; (with_reducible refine (c1).mono ?_); rintro e w5 ⟨rfl, hb5, ha5, bel5, old5⟩); have H5 := Lib.hid hb5; have A5 := Lib.hid ha5; have B5' := Lib.hid (BW.out.trans bel5); have V5 := Lib.hid (old5 _ _ VW.out); clear hb5 ha5 bel5 old5)
          | fail "no arm")
        go_roundw
        case rel =>
          have f1 : Both w5 w7.heap.size p q (stepAK D0 f m l (k + 1)) := by rw [hst.out]; exact H5.out
          first
            | exact ⟨k + 1, by omega, by go_num, f1, A5.out, V5.out, B5'.out⟩
            | ((repeat apply Exists.intro); exact ⟨⟨k + 1, by omega, by go_num, f1, A5.out, V5.out, B5'.out⟩, rfl⟩)
        case measure => simp [intOf]; omega
      · have hkk : D0.many = 12 := HM0.out
        generalize stepAK D0 f m l k = D at *
        have HBB := Lib.hid hB
        have HVV := Lib.hid hV
        have HBEL := Lib.hid hbel
        have hkl : D.kept.length ≤ 4096 * 128 := by
          obtain ⟨A9, c9, h9⟩ := hB.d
          have e1 := h9.ok.kept
          have e2 := h9.ok.many1
          rw [e1]; omega
        clear hB hA hV hbel hsk hkk
        go_wp2_with fail
        have cim1 : Calls Try.prog 25 #[.pointer (some ⟨p.d, 0, none⟩)] wr.drew fun e w' => ∃ B N d, e = .returned (.slice B N d) ∧ OB w' wr.drew.heap.size 5 B N d D.kept ∧ DiskS w' w7.heap.size p D ∧ Step mutD w7.heap.size p wr.drew w' := s_image HBB.out.d.drew hbs
        have bD : Below wr.heap.size wr wr.drew := Below.drew (Below.refl _ _)
        have rD := HBB.out.r.below bD
        refine wp_region_held_drew (S := fun w' => w'.cell? ⟨g, 0, none⟩ = some (.pointer (some ⟨q.d, 0, none⟩))) (by kernel_rfl) v0 (fun hHeld => ?_)
        refine wpAnyH_take (i := 0) (v := ?_) rfl (by decide +kernel) (by decide +kernel) (by decide +kernel) (fun _ _ _ h => h) (Or.inl ⟨by rfl, ?_⟩) (by assumption) ?_
        rotate_left 1
        · (intro w hSw; (try dsimp only at hSw); go_simp; try (with_reducible rfl))
        try simp only [List.getElem_toArray, List.getElem_cons_zero, List.getElem_cons_succ, Act.put, List.setIfInBounds_toArray, List.set_cons_zero, List.set_cons_succ]
        refine wpAnyH_take (i := 2) (v := ?_) rfl (by decide +kernel) (by decide +kernel) (by decide +kernel) (fun _ _ _ h => h) (Or.inl ⟨by rfl, ?_⟩) (by assumption) ?_
        rotate_left 1
        · (intro w hSw; (try dsimp only at hSw); go_simp; try (with_reducible rfl))
        try simp only [List.getElem_toArray, List.getElem_cons_zero, List.getElem_cons_succ, Act.put, List.setIfInBounds_toArray, List.set_cons_zero, List.set_cons_succ]
        refine wpAnyH_take (i := 3) (v := ?_) rfl (by decide +kernel) (by decide +kernel) (by decide +kernel) (fun _ _ _ h => h) (Or.inl ⟨by rfl, ?_⟩) (by assumption) ?_
        rotate_left 1
        · (intro w hSw; (try dsimp only at hSw); go_simp; rfl)
        try simp only [List.getElem_toArray, List.getElem_cons_zero, List.getElem_cons_succ, Act.put, List.setIfInBounds_toArray, List.set_cons_zero, List.set_cons_succ]
        refine wpAnyH_ready (rs := [1]) (by decide +kernel) (by simp) ?_
        refine AllReadyH.cons rfl (fun K hK => ?_) AllReadyH.nil
        go_simp
        (go_at_call 25; (with_reducible refine (cim1).mono ?_); rintro e w6 ⟨I6, N6, i6, rfl, o6, d6, st6⟩)
        have r6 := rD.step HBB.out.d.drew st6 n1 n2 (by decide) (by decide)
        have s6 := st6.size
        have s6' : w7.heap.size ≤ w6.heap.size := Nat.le_trans hbs s6
        have b6 := (HBEL.out.drew).trans st6.bel
        have V6 := HBB.out.d.drew.blk (HVV.out.drew) st6.tch (by decide)
        have cim2 := r_image r6 s6'
        refine hK.out _ _ (V6.cell 0) (fun hHeld => ?_)
        clear hK K
        try simp only [List.getElem_toArray, List.getElem_cons_zero, List.getElem_cons_succ, Act.put, List.setIfInBounds_toArray, List.set_cons_zero, List.set_cons_succ]
        refine wpAnyH_ready (rs := [4]) (by decide +kernel) (by simp) ?_
        refine AllReadyH.cons rfl (fun K hK => ?_) AllReadyH.nil
        go_simp
        (go_at_call 35; (with_reducible refine (cim2).mono ?_); rintro e w7' ⟨I7, N7, i7, rfl, o7, b7⟩)
        have o67 := o6.below b7 (Nat.le_refl _)
        have hN6 : N6 ≤ maxLen := by have e1 := o6.cap; omega
        have hsame := same_any I6 I7 N6 N7 i6 i7 D.kept D.kept w7' o67.rd.rb o7.rd.rb hN6
        rw [decide_eq_true rfl] at hsame
        have B7' := b6.trans (b7.mono s6')
        have V7 := V6.below b7 V6.lt
        refine hK.out _ _ (V7.cell 0) (fun hHeld => ?_)
        clear hK K
        try simp only [List.getElem_toArray, List.getElem_cons_zero, List.getElem_cons_succ, Act.put, List.setIfInBounds_toArray, List.set_cons_zero, List.set_cons_succ]
        refine wpAnyH_ready (rs := [5]) (by decide +kernel) (by simp) ?_
        refine AllReadyH.cons rfl (fun K hK => ?_) AllReadyH.nil
        go_simp
        (go_at_call 24; (with_reducible refine (hsame).mono ?_); rintro e w8' ⟨rfl, q8, rfl⟩)
        refine hK.out _ _ ((V7.drewN q8).cell 0) (fun hHeld => ?_)
        clear hK K
        try simp only [List.getElem_toArray, List.getElem_cons_zero, List.getElem_cons_succ, Act.put, List.setIfInBounds_toArray, List.set_cons_zero, List.set_cons_succ]
        refine wpAnyH_take (i := 6) (v := ?_) rfl (by decide +kernel) (by decide +kernel) (by decide +kernel) (fun _ _ _ h => h) (Or.inl ⟨by rfl, ?_⟩) (by assumption) ?_
        rotate_left 1
        · (intro w hSw; (try dsimp only at hSw); go_simp; try (with_reducible rfl))
        try simp only [List.getElem_toArray, List.getElem_cons_zero, List.getElem_cons_succ, Act.put, List.setIfInBounds_toArray, List.set_cons_zero, List.set_cons_succ]
        refine wpAnyH_done (by decide +kernel) ?_ _
        have HB8 := Lib.hid (below_drewN B7' q8)
        clear hHeld v0 v1 v2 cim1 cim2 hsame V6 V7 B7' b6 st6 d6 r6 rD o6 o7 o67 b7
        go_wp2
        go_ret
        exact ⟨rfl, by rw [EQ.out]; exact B7.out.trans (HB8.out.mono s7)⟩
theorem walk (w : World) (v0 : Value) (x0 : ∃ f m, v0 = .agg #[.int .i64 f, .int .i64 m] ∧ i64ok f ∧ i64ok m) (v : Int) (wv : (Lit.int .u8 v).wf = true) (v2 : Value) (x2 : ∃ A n c l, v2 = .slice A n c ∧ Dos8Rd w A n l ∧ n ≤ c ∧ c ≤ maxLen) :
    Calls Try.prog 8 #[v0, .int .u8 v, v2] w fun e w' => e = .returned (.bool true) ∧ Below w.heap.size w w' := by
  obtain ⟨f, m, rfl, hf, hm⟩ := x0
  obtain ⟨A0, n, c, l, rfl, hl, nc, cm⟩ := x2
  have hv := bounds_u8 wv
  have hn : n ≤ maxLen := by omega
  unfold i64ok at hf hm
  cases q : few8B l with
  | false => exact walk_few f m v A0 n c l w hl hn q
  | true =>
    by_cases hb : f < 0 ∨ 12 ≤ f ∨ m < 1 ∨ 12 - f < m
    · exact walk_bad f m v A0 n c l w hl hn q (by omega) (by omega) hf.2 hf.1 hb
    · obtain ⟨fn, rfl⟩ : ∃ fn : Nat, f = (fn : Int) := ⟨f.toNat, by omega⟩
      obtain ⟨mn, rfl⟩ : ∃ mn : Nat, m = (mn : Int) := ⟨m.toNat, by omega⟩
      exact walk_main fn mn v A0 n c l w hl hn q (by omega) (by omega) (by omega) (by omega)

--FRAME tompionlaw08 AreaDoes areaDoes walk raw:tompion/api.Span:args_span:.agg‹_›#[.int‹_›.i64‹_›0,‹_›.int‹_›.i64‹_›0] u8 raw:[]tompionlaw08.Do:args_dos8:.slice‹_›none‹_›0‹_›0
theorem own : ownKnob Try.prog.godebug = none := by kernel_rfl
theorem laidOut : laidOutB Try.prog = true := by kernel_rfl

set_option maxRecDepth 100000 in
theorem lifted (os : Os) (started : os.Started) (H : Type) (enc : TypeId × Value → H) :
    ReturnsInHanded {} Try.checked os 8 .any (Rows.areaDoesSpec.pre6 enc Try.prog Try.f8 Rows.areaDoesRow.domain false) (Rows.areaDoesSpec.post enc Try.prog Try.f8 false true false false) := by
  refine returnsInHanded_of_change (C := Try.checked) own started (by kernel_rfl) Try.func8
    (ChangeSpec.witness6 (enc := enc) (C := Try.checked) false ⟨#[], #[.agg #[.int .i64 0, .int .i64 0], .int .u8 0, .slice none 0 0], []⟩ 8 (by kernel_rfl) (by kernel_rfl) (by kernel_rfl) (by kernel_rfl)) ?_
  intro W base args ds gs before hval0 hW hcnd _
  have hval : ∀ (j : Nat) t v, Try.f8.params[j]? = some t → args[j]? = some v → Value.okWide Try.prog W .any base t v := hval0
  have hW' := hW
  obtain ⟨p, q, hA0, hV, rfl, hfz, hnd⟩ := hW
  have hA : DataW.TrodAll enc Try.prog W 0 (fun _ => true) true Try.f8.params.toList args.toList ds p := hA0
  rw [Try.params8] at hA hval
  obtain ⟨v0, vs0, d0, ds0, p0, q0, hargs, rfl, rfl, h0, rr0⟩ := trodAll_cons hA
  obtain ⟨v1, vs1, d1, ds1, p1, q1, rfl, rfl, rfl, h1, rr1⟩ := trodAll_cons rr0
  obtain ⟨v2, vs2, d2, ds2, p2, q2, rfl, rfl, rfl, h2, rr2⟩ := trodAll_cons rr1
  obtain ⟨rfl, rfl, rfl⟩ := trodAll_nil rr2
  obtain rfl : args = #[v0, v1, v2] := by cases args; simp_all
  obtain ⟨rfl, rfl⟩ := trodVars_none hV
  have k0 := h0
  have lt0 : ∀ x ∈ p0, x.block < W.heap.size := by obtain ⟨m, hm⟩ := k0; exact DataW.trod_lt m _ _ _ hm
  have x0 := args_span (hval 0 69 v0 rfl rfl) h0
  have k1 := h1
  have lt1 : ∀ x ∈ p1, x.block < W.heap.size := by obtain ⟨m, hm⟩ := k1; exact DataW.trod_lt m _ _ _ hm
  obtain ⟨a1, rfl, wf1⟩ := args_int Try.underlying5 (hval 1 5 v1 rfl rfl) h1
  have k2 := h2
  have lt2 : ∀ x ∈ p2, x.block < W.heap.size := by obtain ⟨m, hm⟩ := k2; exact DataW.trod_lt m _ _ _ hm
  have x2 := args_dos8 (hval 2 70 v2 rfl rfl) h2
  clear hA0 hval0
  refine (walk W v0 x0 a1 wf1 v2 x2).mono fun e W' ⟨he, bel⟩ => ?_
  subst he
  exact ⟨_, rfl, _, _, _, [], _, [], hW', trodAll_mk1 (shut_bool Try.underlying4 _), (trodAll_cons_mk (Below.trod laidOut (by kernel_rfl) (of_decide_eq_true (by kernel_rfl)) k0 bel lt0) (trodAll_cons_mk (Below.trod laidOut (by kernel_rfl) (of_decide_eq_true (by kernel_rfl)) k1 bel lt1) (trodAll_cons_mk (Below.trod laidOut (by kernel_rfl) (of_decide_eq_true (by kernel_rfl)) k2 bel lt2) trodAll_mk0))), rfl, bel.frame _, fun h => by cases h⟩

theorem over : Rows.areaDoesRow.holds Try.pinned (OpenSpec.ofChange Rows.areaDoesSpec) :=
  OpenClaim.holds_of_wide 8 Try.f8 rfl rfl rfl rfl rfl rfl rfl ⟨rfl, rfl, rfl, rfl, rfl⟩ rfl rfl rfl rfl rfl (by kernel_rfl) Try.func8 (by kernel_rfl)
    (of_decide_eq_true (by kernel_rfl)) (by unfold Func.isWrapper; first | (rw [if_pos (by decide +kernel)]; kernel_rfl) | (rw [if_neg (by decide +kernel)]; exact ⟨rfl, rfl⟩))
    (fun os started H enc _ => lifted os started H enc)

theorem proved : Rows.AreaDoesSaid := over
--ENDFRAME
end Go.Proofs.Ytninidpbchcliaa.areaDoes
