/- DiskDoes: whatever a disk is made of, and whatever is done to it, all answers are the document's. -/
import Derived.Test.YtninidpbchcliaaOneE
import Derived.Test.YtninidpbchcliaaDiskO
import Derived.IntWalk
namespace Go.Proofs.Ytninidpbchcliaa.diskDoes
open Go.ChangeShapes Go.WideShapes Go.ChangeAt Go.RowKit
set_option linter.unusedVariables false
set_option linter.unusedSimpArgs false
section
variable {H : Type} {enc : TypeId × Value → H} {w : World} {base b0 : Nat} {held : Bool} {r : Reach} {v : Value} {d : DataW H} {ps : List MemPlace}
set_option maxRecDepth 100000 in
theorem args_two (hval : Value.okWide Try.prog w r b0 55 v) (hd : DataW.Trod enc Try.prog w base (fun _ => true) held 55 v d ps) : ∃ s t, v = .agg #[.int .i64 s, .int .i64 t] ∧ (-9223372036854775808 ≤ s ∧ s ≤ 9223372036854775807) ∧ (-9223372036854775808 ≤ t ∧ t ≤ 9223372036854775807) := by
  obtain ⟨zs, rfl, hl, hw⟩ := args_array (n := 2) Try.underlying55 Try.underlying3 (by kernel_rfl) (by kernel_rfl) hval hd
  match zs, hl with
  | [s, t], _ => exact ⟨s, t, rfl, bounds_i64 (hw s (by simp)), bounds_i64 (hw t (by simp))⟩
end
section
variable {w w' : World} {base : Nat} {p : DiskP} {q : RDiskP} {D : DiskV}
theorem s_on (h : DiskS w base p D) : Calls Try.prog 29 #[.pointer (some ⟨p.d, 0, none⟩)] w fun e w' => e = .returned (.bool (!D.off)) ∧ w = w' := by
  obtain ⟨A, c, h⟩ := h; exact on_any h
theorem s_waits (h : DiskS w base p D) : Calls Try.prog 23 #[.pointer (some ⟨p.d, 0, none⟩)] w fun e w' => e = .returned (.int .i64 (D.waits.length : Nat)) ∧ w = w' := by
  obtain ⟨A, c, h⟩ := h; exact waits_any h
theorem s_left (h : DiskS w base p D) : Calls Try.prog 26 #[.pointer (some ⟨p.d, 0, none⟩)] w fun e w' => e = .returned (.int .i64 (D.room - (trues D.might : Nat))) ∧ w = w' := by
  obtain ⟨A, c, h⟩ := h; exact left_any h
theorem s_size (h : DiskS w base p D) : Calls Try.prog 28 #[.pointer (some ⟨p.d, 0, none⟩)] w fun e w' => e = .returned (.int .i64 (D.many : Nat)) ∧ w = w' := by
  obtain ⟨A, c, h⟩ := h; exact size_any h
theorem s_meter (h : DiskS w base p D) : Calls Try.prog 30 #[.pointer (some ⟨p.d, 0, none⟩)] w fun e w' => e = .returned (.pointer (some ⟨p.gc, 0, none⟩)) ∧ w = w' := by
  obtain ⟨A, c, h⟩ := h; exact meterof_any h
theorem s_count (h : DiskS w base p D) (k : Int) : Calls Try.prog 36 #[.pointer (some ⟨p.gc, 0, none⟩), .int .i64 k] w fun e w' => e = .returned (.int .i64 (mCnt D.ops k)) ∧ w = w' := by
  obtain ⟨A, c, h⟩ := h; exact count_any p.gc D.ops k w h.mt
theorem r_used (h : RDiskS w base q D) : Calls Try.prog 34 #[.pointer (some ⟨q.d, 0, none⟩)] w fun e w' => e = .returned (.int .i64 (trues D.might : Nat)) ∧ w = w' := by
  obtain ⟨A, c, ck, ci, h⟩ := h; exact rused_any h
end
theorem wpAnyH_more {P : Program} {md : Region.Mode} {ops : Array Oper} {Q : Exit → Act → World → Prop} {S S' : World → Prop} (h : ∀ w, S' w → S w) : ∀ (fuel : Nat) (listed : Array Bool) (a : Act) (w : World), wpAnyH P md ops Q S' fuel listed a w → wpAnyH P md ops Q S fuel listed a w
  | 0, _, _, _, hx => hx
  | fuel + 1, _, _, _, hx => ⟨hx.1, fun i hi => wpOp_mono (fun a' w' h' => ⟨h _ h'.1, wpAnyH_more h fuel _ a' w' h'.2⟩) (hx.2 i hi)⟩
/-- The first k things are done. -/
def stepK (D : DiskV) (l : List DoV) : Nat → DiskV
  | 0 => D
  | k + 1 => stepD (stepK D l k) (doAt l k)
theorem stepD_waits (D : DiskV) (x : DoV) : (stepD D x).waits.length ≤ D.waits.length + 1 := by
  unfold stepD
  split
  · exact (writeV_many D x.n _).2
  split
  · unfold flushV
    split
    · simp
    · split
      · simp [goesV]
      · simp [flushD]
  split
  · unfold readV
    split
    · simp
    · simp [readV']
  split
  · simp
  split
  · simp [crashV]
  · simp
theorem stepK_waits {D : DiskV} (l : List DoV) : ∀ k, (stepK D l k).waits.length ≤ D.waits.length + k := by
  intro k
  induction k with
  | zero => exact Nat.le_refl _
  | succ k ih => have := stepD_waits (stepK D l k) (doAt l k); show (stepD _ _).waits.length ≤ _; omega
def badA (n : Nat) (s r : Int) : Prop := s < 1 ∨ 4096 < s ∨ r < 0 ∨ s < r ∨ s * 128 < n
set_option maxRecDepth 100000 in
set_option maxHeartbeats 8000000 in
theorem walk_few (A0 C0 : Option Addr) (n m0 c0 d0 : Nat) (s r : Int) (l : List DoV) (w : World) (h1 : DosRd w C0 m0 l) (hn : n ≤ maxLen) (hm : m0 ≤ maxLen) (hc : few6B l = false ∨ (few6B l = true ∧ 3000 < n) ∨ (few6B l = true ∧ n ≤ 3000 ∧ 30 < s ∧ s ≤ 4096)) :
    Calls Try.prog 6 #[.slice A0 n c0, .agg #[.int .i64 s, .int .i64 r], .slice C0 m0 d0] w fun e w' => e = .returned (.bool true) ∧ Below w.heap.size w w' := by
  have hf1 := fun w h => few6_any C0 m0 d0 l w h hm
  unfold maxLen at hn
  rcases hc with q1 | ⟨q1, q2⟩ | ⟨q1, q2, q3, q4⟩
  all_goals
    rw [q1] at hf1
    clear q1
    go_enter Try.func6, Try.ntmps6
    go_wp2_with (first
      | ((go_at_call 15; (with_reducible refine (awake6 _).mono ?_); rintro e w1 ⟨rfl, hb1⟩); have hx1 := Blk.below (w' := w1) (g := w.heap.size) (t := 55) (cs := [.int .i64 s, .int .i64 r]) (by (repeat' (first | (with_reducible assumption) | (with_reducible refine Blk.top _ (by first | rfl | omega | (simp; done) | (simp; omega)) rfl) | (with_reducible refine Blk.alloc ?_ _) | (with_reducible refine Blk.drew ?_) | (with_reducible refine Blk.drewN ?_ _) | (with_reducible refine Blk.far ?_ (by first | omega | (simp; done) | (simp; omega)) _)))) hb1 (by first | omega | (simp; done) | (simp; omega)); have z0 : w1.cell? ⟨w.heap.size, 0, none⟩ = some (.int .i64 s) := hx1.cell 0; have z1 : w1.cell? ⟨w.heap.size, 1, none⟩ = some (.int .i64 r) := hx1.cell 1; have B1 := Lib.hid (below_then' (a := w) (B := w.heap.size) (by (repeat' (first | (with_reducible exact Below.refl _ _) | (with_reducible assumption) | (with_reducible refine Below.drew ?_) | (with_reducible refine below_drewN ?_ _) | (with_reducible refine Below.alloc ?_ ?_ _) | (with_reducible refine Below.setCell ?_ ?_ _) | omega | (simp; done) | (simp; omega)))) hb1 (by first | omega | (simp; done) | (simp; omega))); clear hb1)
      | fail "no arm")
    go_quiet (fail)
    go_wp2_with (first
      | ((go_at_call 16; (with_reducible refine (hf1 _ (h1.below (B0 := w.heap.size) (below_drewN B1.out _) (Nat.le_refl _))).mono ?_); rintro e w2 ⟨rfl, hb2⟩); have B2 := Lib.hid ((below_drewN B1.out _).trans (hb2.mono (by have := B1.out.size; simpa using this))); clear hb2)
      | fail "no arm")
    go_ret
    exact ⟨rfl, B2.out⟩
set_option maxRecDepth 100000 in
set_option maxHeartbeats 8000000 in
theorem walk_no (A0 C0 : Option Addr) (n m0 c0 d0 : Nat) (s r z : Int) (img : List UInt8) (l : List DoV) (w : World) (h0 : RB w A0 n img) (h1 : DosRd w C0 m0 l) (hn : n ≤ 3000) (hm : m0 ≤ maxLen) (q1 : few6B l = true) (hz : z ≠ 0) (hsz : s ≤ 30 ∨ (30 < s ∧ 4096 < s))
    (c1 : ∀ w', RB w' A0 n img → Calls Try.prog 31 #[.slice A0 n c0, .int .i64 s, .int .i64 r] w' fun e w'' => e = .returned (.tuple #[.pointer none, .int .i64 z]) ∧ Below w'.heap.size w' w'')
    (c2 : ∀ w', RB w' A0 n img → Calls Try.prog 32 #[.slice A0 n c0, .int .i64 s, .int .i64 r] w' fun e w'' => e = .returned (.tuple #[.pointer none, .int .i64 z]) ∧ Below w'.heap.size w' w'') :
    Calls Try.prog 6 #[.slice A0 n c0, .agg #[.int .i64 s, .int .i64 r], .slice C0 m0 d0] w fun e w' => e = .returned (.bool true) ∧ Below w.heap.size w w' := by
  have hf1 := fun w h => few6_any C0 m0 d0 l w h hm
  rw [q1] at hf1
  have hne : (z != 0) = true := by rw [bne_iff_ne]; exact hz
  have C1 := Lib.hid c1
  have C2 := Lib.hid c2
  clear q1 hz c1 c2
  rcases hsz with h30 | ⟨h30, h4096⟩
  all_goals
    go_enter Try.func6, Try.ntmps6
    go_wp2_with (first
      | ((go_at_call 15; (with_reducible refine (awake6 _).mono ?_); rintro e w1 ⟨rfl, hb1⟩); have hx1 := Blk.below (w' := w1) (g := w.heap.size) (t := 55) (cs := [.int .i64 s, .int .i64 r]) (by (repeat' (first | (with_reducible assumption) | (with_reducible refine Blk.top _ (by first | rfl | omega | (simp; done) | (simp; omega)) rfl) | (with_reducible refine Blk.alloc ?_ _) | (with_reducible refine Blk.drew ?_) | (with_reducible refine Blk.drewN ?_ _) | (with_reducible refine Blk.far ?_ (by first | omega | (simp; done) | (simp; omega)) _)))) hb1 (by first | omega | (simp; done) | (simp; omega)); have z0 : w1.cell? ⟨w.heap.size, 0, none⟩ = some (.int .i64 s) := hx1.cell 0; have z1 : w1.cell? ⟨w.heap.size, 1, none⟩ = some (.int .i64 r) := hx1.cell 1; have B1 := Lib.hid (below_then' (a := w) (B := w.heap.size) (by (repeat' (first | (with_reducible exact Below.refl _ _) | (with_reducible assumption) | (with_reducible refine Below.drew ?_) | (with_reducible refine below_drewN ?_ _) | (with_reducible refine Below.alloc ?_ ?_ _) | (with_reducible refine Below.setCell ?_ ?_ _) | omega | (simp; done) | (simp; omega)))) hb1 (by first | omega | (simp; done) | (simp; omega))); clear hb1)
      | fail "no arm")
    go_quiet (fail)
    go_wp2_with (first
      | ((go_at_call 16; (with_reducible refine (hf1 _ (h1.below (B0 := w.heap.size) (below_drewN B1.out _) (Nat.le_refl _))).mono ?_); rintro e w2 ⟨rfl, hb2⟩); have B2 := Lib.hid ((below_drewN B1.out _).trans (hb2.mono (by have := B1.out.size; simpa using this))); have s2 := B2.out.size; clear hb2)
      | ((go_at_call 31; (with_reducible refine (C1.out _ (h0.below B2.out (Nat.le_refl _))).mono ?_); rintro e w3 ⟨rfl, hb3⟩); have B3 := Lib.hid (B2.out.trans (hb3.mono s2)); have s3 := B3.out.size; clear hb3)
      | ((go_at_call 32; (with_reducible refine (C2.out _ (h0.below B3.out (Nat.le_refl _))).mono ?_); rintro e w4 ⟨rfl, hb4⟩); have B4 := Lib.hid (B3.out.trans (hb4.mono s3)); clear hb4)
      | fail "no arm")
    go_ret
    exact ⟨by first | rfl | exact ret_bool (by simp), B4.out⟩
set_option maxRecDepth 100000 in
set_option maxHeartbeats 8000000 in
theorem walk_main (A0 C0 : Option Addr) (n m0 c0 d0 many : Nat) (r : Int) (img : List UInt8) (l : List DoV) (w : World) (h0 : RB w A0 n img) (hnc : n ≤ c0) (h1 : DosRd w C0 m0 l) (hn : n ≤ 3000) (hm : m0 ≤ maxLen) (q1 : few6B l = true)
    (hm0 : 1 ≤ many) (hm30 : many ≤ 30) (r0 : 0 ≤ r) (r1 : r ≤ many) (hl : n ≤ many * 128) (hu : (usedN img : Int) ≤ r) :
    Calls Try.prog 6 #[.slice A0 n c0, .agg #[.int .i64 (many : Nat), .int .i64 r], .slice C0 m0 d0] w fun e w' => e = .returned (.bool true) ∧ Below w.heap.size w w' := by
  have hq := few6B_true q1
  rw [h1.1] at hq
  obtain ⟨hm40, hsm⟩ := hq
  have hf1 := fun w h => few6_any C0 m0 d0 l w h hm
  rw [q1] at hf1
  have Hsm := Lib.hid hsm
  have Hl1 := Lib.hid h1.1
  have C1 := Lib.hid (fun (w' : World) (hr : RB w' A0 n img) => load_ok A0 n c0 img many r w' hr hnc hm0 (by omega) r0 r1 hl hu)
  have C2 := Lib.hid (fun (w' : World) (hr : RB w' A0 n img) => rload_any A0 n c0 many r img w' hr hm0 (by omega) r0 r1 hl (RLdPost w' (loadD many r img (usedN img))) (fun _ e w'' h => h) (fun h => absurd hu (by omega)))
  have HW0 := Lib.hid (show (loadD many r img (usedN img)).waits.length = 0 from rfl)
  have HM0 := Lib.hid (show (loadD many r img (usedN img)).many = many from rfl)
  generalize loadD many r img (usedN img) = D0 at *
  have hmI : ((many : Nat) : Int) ≤ 30 := by omega
  clear q1 hsm hu
  go_enter Try.func6, Try.ntmps6
  go_wp2_with (first
    | ((go_at_call 15; (with_reducible refine (awake6 _).mono ?_); rintro e w1 ⟨rfl, hb1⟩); have hx1 := Blk.below (w' := w1) (g := w.heap.size) (t := 55) (cs := [.int .i64 (many : Nat), .int .i64 r]) (by (repeat' (first | (with_reducible assumption) | (with_reducible refine Blk.top _ (by first | rfl | omega | (simp; done) | (simp; omega)) rfl) | (with_reducible refine Blk.alloc ?_ _) | (with_reducible refine Blk.drew ?_) | (with_reducible refine Blk.drewN ?_ _) | (with_reducible refine Blk.far ?_ (by first | omega | (simp; done) | (simp; omega)) _)))) hb1 (by first | omega | (simp; done) | (simp; omega)); have z0 : w1.cell? ⟨w.heap.size, 0, none⟩ = some (.int .i64 (many : Nat)) := hx1.cell 0; have z1 : w1.cell? ⟨w.heap.size, 1, none⟩ = some (.int .i64 r) := hx1.cell 1; have B1 := Lib.hid (below_then' (a := w) (B := w.heap.size) (by (repeat' (first | (with_reducible exact Below.refl _ _) | (with_reducible assumption) | (with_reducible refine Below.drew ?_) | (with_reducible refine below_drewN ?_ _) | (with_reducible refine Below.alloc ?_ ?_ _) | (with_reducible refine Below.setCell ?_ ?_ _) | omega | (simp; done) | (simp; omega)))) hb1 (by first | omega | (simp; done) | (simp; omega))); clear hb1)
    | fail "no arm")
  go_quiet (fail)
  go_wp2_with (first
    | ((go_at_call 16; (with_reducible refine (hf1 _ (h1.below (B0 := w.heap.size) (below_drewN B1.out _) (Nat.le_refl _))).mono ?_); rintro e w2 ⟨rfl, hb2⟩); have B2 := Lib.hid ((below_drewN B1.out _).trans (hb2.mono (by have := B1.out.size; simpa using this))); have s2 := B2.out.size; clear hb2)
    | ((go_at_call 31; (with_reducible refine (C1.out _ (h0.below B2.out (Nat.le_refl _))).mono ?_); rintro e w3 ⟨p, rfl, d3, hb3⟩); have D3 := Lib.hid d3; have HB3 := Lib.hid hb3; have B3 := Lib.hid (B2.out.trans (hb3.mono s2)); have s3 := hb3.size; clear d3 hb3)
    | ((go_at_call 32; (with_reducible refine (C2.out _ (h0.below B3.out (Nat.le_refl _))).mono ?_); rintro e w4 ⟨q, rfl, r4, hgi, hb4⟩); have R4 := Lib.hid (r4 w2.heap.size s3); have D4 := Lib.hid (D3.out.below hb4); have HB4 := Lib.hid (HB3.out.trans (hb4.mono s3)); have HGI := Lib.hid hgi; clear r4 hb4 hgi)
    | ((go_at_call 28; (with_reducible refine (s_size D4.out).mono ?_); rintro e w5 ⟨rfl, rfl⟩); rw [HM0.out])
    | fail "no arm")
  have hn1 : q.gi ≠ p.gi ∧ q.gi ≠ p.gm := by
    obtain ⟨A, c, h⟩ := D3.out
    have e1 := h.lt p.gi (.inr (.inr (.inr (.inl rfl))))
    have e2 := h.lt p.gm (.inr (.inr (.inr (.inr (.inl rfl)))))
    have := HGI.out
    omega
  obtain ⟨n1, n2⟩ := hn1
  have RD := Lib.hid (h1.below B2.out (Nat.le_refl _))
  clear hf1 z0 z1 hx1
  go_loopw [14, 71] (fun _ i wr => ∃ k : Nat, k ≤ m0 ∧ i = .int .i64 (k : Nat) ∧ Both wr w2.heap.size p q (stepK D0 l k) ∧ Below w2.heap.size w2 wr) (fun _ i _ => m0 - (intOf i).toNat)
  case atStart => exact ⟨0, by omega, rfl, ⟨D4.out, R4.out, n1, n2⟩, HB4.out⟩
  case round =>
    obtain ⟨k, hk, rfl, hB, hbel⟩ := hrel
    have hbs := hbel.size
    have hwl : (stepK D0 l k).waits.length < 1000000 := by have := stepK_waits (D := D0) l k; have := HW0.out; omega
    by_cases hlt : k < m0
    · obtain ⟨x, hx⟩ : ∃ x, l[k]? = some x := ⟨_, List.getElem?_eq_getElem (by rw [Hl1.out]; exact hlt)⟩
      obtain ⟨b, o, B, m, d, hC0, hr, hmd, hdm, hxn, hget⟩ := RD.out.get hx
      obtain ⟨hb, e0, e1, e2⟩ := hget wr _ hbel (Nat.le_refl _)
      have hdo : doAt l k = x := by unfold doAt; rw [List.getD_eq_getElem?_getD, hx]; rfl
      have hst : Hid (stepK D0 l (k + 1) = stepD (stepK D0 l k) x) := by show stepD _ (doAt l k) = _; rw [hdo]
      have hrlow : ∀ {W : World}, Below w2.heap.size w2 W → RB W B m x.b := fun hb => hr.below hb (Nat.le_refl _)
      have hlow : 0 < m → ∀ g, B.map (·.block) = some g → g < w2.heap.size := fun h0 g hg => by
        obtain ⟨b9, o9, e9, h9, _⟩ := hr.2 h0
        rw [e9] at hg
        simp only [Option.map_some, Option.some.injEq] at hg
        omega
      have c1 := fun (W : World) (hB : Both W w2.heap.size p q (stepK D0 l k)) (hs : w2.heap.size ≤ W.heap.size) (hb : Below w2.heap.size w2 W) => one6_any hB hs x B m d (hrlow hb) hlow (by omega) hxn.2 hwl
      have bW : Below wr.heap.size wr ((wr.alloc (.cells #[.int .i64 x.kind, .int .i64 x.n, .slice B m d] 31)).drew) := ((Below.refl _ _).alloc (Nat.le_refl _) _).drew
      have hBW : Both ((wr.alloc (.cells #[.int .i64 x.kind, .int .i64 x.n, .slice B m d] 31)).drew) w2.heap.size p q (stepK D0 l k) := ⟨hB.d.below bW, hB.r.below bW, n1, n2⟩
      have c2 := c1 _ hBW (by have := bW.size; omega) (hbel.trans (bW.mono hbs))
      have BW := Lib.hid (hbel.trans (bW.mono hbs))
      have sW : w2.heap.size ≤ ((wr.alloc (.cells #[.int .i64 x.kind, .int .i64 x.n, .slice B m d] 31)).drew).heap.size := by have := bW.size; omega
      generalize stepD (stepK D0 l k) x = D' at *
      clear c1 hB hbel hr hrlow hlow hx hget hdo bW hBW
      subst hC0
      obtain ⟨of, hof⟩ : ∃ of, D'.off = of := ⟨_, rfl⟩
      have HOF := Lib.hid hof
      clear hof
      have hbb : ((!of) == of) = false := by cases of <;> rfl
      go_wp2_with fail
      refine wp_region_held_drew (S := fun _ => True) (by kernel_rfl) trivial (fun hHeld => ?_)
      refine wpAnyH_take (i := 0) (v := ?_) rfl (by decide +kernel) (by decide +kernel) (by decide +kernel) (fun _ _ _ h => h) (Or.inl ⟨by rfl, ?_⟩) (by assumption) ?_
      rotate_left 1
      · (intro w hSw; (try dsimp only at hSw); go_simp; try (with_reducible rfl))
      try simp only [List.getElem_toArray, List.getElem_cons_zero, List.getElem_cons_succ, Act.put, List.setIfInBounds_toArray, List.set_cons_zero, List.set_cons_succ]
      refine wpAnyH_take (i := 1) (v := ?_) rfl (by decide +kernel) (by decide +kernel) (by decide +kernel) (fun _ _ _ h => h) (Or.inl ⟨by rfl, ?_⟩) (by assumption) ?_
      rotate_left 1
      · (intro w hSw; (try dsimp only at hSw); go_simp; try (with_reducible rfl))
      try simp only [List.getElem_toArray, List.getElem_cons_zero, List.getElem_cons_succ, Act.put, List.setIfInBounds_toArray, List.set_cons_zero, List.set_cons_succ]
      refine wpAnyH_ready (rs := [2]) (by decide +kernel) (by simp) ?_
      refine AllReadyH.cons rfl (fun K hK => ?_) AllReadyH.nil
      go_simp
      refine hK.out _ _ (trivial) (fun hHeld => ?_)
      clear hK K
      try simp only [List.getElem_toArray, List.getElem_cons_zero, List.getElem_cons_succ, Act.put, List.setIfInBounds_toArray, List.set_cons_zero, List.set_cons_succ]
      refine wpAnyH_ready (rs := [3]) (by decide +kernel) (by simp) ?_
      refine AllReadyH.cons rfl (fun K hK => ?_) AllReadyH.nil
      go_simp
      (go_at_call 33; (with_reducible refine (c2).mono ?_); rintro e w5 ⟨rfl, hb5, bel5⟩)
      obtain ⟨A5, ca5, ck5, ci5, h5⟩ := hb5.r
      obtain ⟨_, _, y2, y3, _, y5, _⟩ := h5.cells
      rw [HOF.out] at y5
      have H5 := Lib.hid hb5
      have B5 := Lib.hid (BW.out.trans bel5)
      have hr0 := h5.ok.room
      have hm1 := h5.ok.many1
      have hus := h5.cons.used
      have con := s_on hb5.d
      rw [HOF.out] at con
      have cwt := s_waits hb5.d
      have clf := s_left hb5.d
      have cus := r_used hb5.r
      have hwr : IntKind.i64.wrap (D'.room - (trues D'.might : Nat)) = D'.room - (trues D'.might : Nat) := IntWalk.i64_in _ (by omega)
      generalize ((trues D'.might : Nat) : Int) = tr at *
      generalize D'.room = rm at *
      clear hb5 bel5 h5
      refine hK.out _ _ (trivial) (fun hHeld => ?_)
      clear hK K
      try simp only [List.getElem_toArray, List.getElem_cons_zero, List.getElem_cons_succ, Act.put, List.setIfInBounds_toArray, List.set_cons_zero, List.set_cons_succ]
      refine wpAnyH_more (S' := fun w' => w'.cell? ⟨q.d, 5, none⟩ = some (.bool of) ∧ w'.cell? ⟨q.d, 2, none⟩ = some (.slice A5 D'.waits.length ca5) ∧ w'.cell? ⟨q.d, 3, none⟩ = some (.int .i64 rm)) (fun _ _ => trivial) _ _ _ _ ?_
      clear hHeld
      have hHeld := And.intro y5 (And.intro y2 y3)
      refine wpAnyH_take (i := 4) (v := ?_) rfl (by decide +kernel) (by decide +kernel) (by decide +kernel) (fun _ _ _ h => h) (Or.inl ⟨by rfl, ?_⟩) (by assumption) ?_
      rotate_left 1
      · (intro w hSw; (try dsimp only at hSw); go_simp; try (with_reducible rfl))
      try simp only [List.getElem_toArray, List.getElem_cons_zero, List.getElem_cons_succ, Act.put, List.setIfInBounds_toArray, List.set_cons_zero, List.set_cons_succ]
      refine wpAnyH_take (i := 5) (v := ?_) rfl (by decide +kernel) (by decide +kernel) (by decide +kernel) (fun _ _ _ h => h) (Or.inl ⟨by rfl, ?_⟩) (by assumption) ?_
      rotate_left 1
      · (intro w hSw; (try dsimp only at hSw); go_simp; try (with_reducible rfl))
      try simp only [List.getElem_toArray, List.getElem_cons_zero, List.getElem_cons_succ, Act.put, List.setIfInBounds_toArray, List.set_cons_zero, List.set_cons_succ]
      refine wpAnyH_take (i := 6) (v := ?_) rfl (by decide +kernel) (by decide +kernel) (by decide +kernel) (fun _ _ _ h => h) (Or.inl ⟨by rfl, ?_⟩) (by assumption) ?_
      rotate_left 1
      · (intro w hSw; (try dsimp only at hSw); go_simp; try (with_reducible rfl))
      try simp only [List.getElem_toArray, List.getElem_cons_zero, List.getElem_cons_succ, Act.put, List.setIfInBounds_toArray, List.set_cons_zero, List.set_cons_succ]
      refine wpAnyH_take (i := 8) (v := ?_) rfl (by decide +kernel) (by decide +kernel) (by decide +kernel) (fun _ _ _ h => h) (Or.inl ⟨by rfl, ?_⟩) (by assumption) ?_
      rotate_left 1
      · (intro w hSw; (try dsimp only at hSw); go_simp; try (with_reducible rfl))
      try simp only [List.getElem_toArray, List.getElem_cons_zero, List.getElem_cons_succ, Act.put, List.setIfInBounds_toArray, List.set_cons_zero, List.set_cons_succ]
      refine wpAnyH_take (i := 9) (v := ?_) rfl (by decide +kernel) (by decide +kernel) (by decide +kernel) (fun _ _ _ h => h) (Or.inl ⟨by rfl, ?_⟩) (by assumption) ?_
      rotate_left 1
      · (intro w hSw; (try dsimp only at hSw); go_simp; try (with_reducible rfl))
      try simp only [List.getElem_toArray, List.getElem_cons_zero, List.getElem_cons_succ, Act.put, List.setIfInBounds_toArray, List.set_cons_zero, List.set_cons_succ]
      refine wpAnyH_take (i := 10) (v := ?_) rfl (by decide +kernel) (by decide +kernel) (by decide +kernel) (fun _ _ _ h => h) (Or.inl ⟨by rfl, ?_⟩) (by assumption) ?_
      rotate_left 1
      · (intro w hSw; (try dsimp only at hSw); go_simp; try (with_reducible rfl))
      try simp only [List.getElem_toArray, List.getElem_cons_zero, List.getElem_cons_succ, Act.put, List.setIfInBounds_toArray, List.set_cons_zero, List.set_cons_succ]
      refine wpAnyH_take (i := 11) (v := ?_) rfl (by decide +kernel) (by decide +kernel) (by decide +kernel) (fun _ _ _ h => h) (Or.inl ⟨by rfl, ?_⟩) (by assumption) ?_
      rotate_left 1
      · (intro w hSw; (try dsimp only at hSw); obtain ⟨s1, s2, s3⟩ := hSw; go_simp; rfl)
      try simp only [List.getElem_toArray, List.getElem_cons_zero, List.getElem_cons_succ, Act.put, List.setIfInBounds_toArray, List.set_cons_zero, List.set_cons_succ]
      refine wpAnyH_ready (rs := [7]) (by decide +kernel) (by simp) ?_
      refine AllReadyH.cons rfl (fun K hK => ?_) AllReadyH.nil
      go_simp
      (go_at_call 29; (with_reducible refine (con).mono ?_); rintro e w6 ⟨rfl, rfl⟩)
      refine hK.out _ _ (⟨y5, y2, y3⟩) (fun hHeld => ?_)
      clear hK K
      try simp only [List.getElem_toArray, List.getElem_cons_zero, List.getElem_cons_succ, Act.put, List.setIfInBounds_toArray, List.set_cons_zero, List.set_cons_succ]
      refine wpAnyH_take (i := 12) (v := ?_) rfl (by decide +kernel) (by decide +kernel) (by decide +kernel) (fun _ _ _ h => h) (Or.inl ⟨by rfl, ?_⟩) (by assumption) ?_
      rotate_left 1
      · (intro w hSw; (try dsimp only at hSw); go_simp; try (with_reducible rfl))
      try simp only [List.getElem_toArray, List.getElem_cons_zero, List.getElem_cons_succ, Act.put, List.setIfInBounds_toArray, List.set_cons_zero, List.set_cons_succ]
      refine wpAnyH_take (i := 13) (v := ?_) rfl (by decide +kernel) (by decide +kernel) (by decide +kernel) (fun _ _ _ h => h) (Or.inl ⟨by rfl, ?_⟩) (by assumption) ?_
      rotate_left 1
      · (intro w hSw; (try dsimp only at hSw); go_simp; try (with_reducible rfl))
      try simp only [List.getElem_toArray, List.getElem_cons_zero, List.getElem_cons_succ, Act.put, List.setIfInBounds_toArray, List.set_cons_zero, List.set_cons_succ]
      refine wpAnyH_take (i := 14) (v := ?_) rfl (by decide +kernel) (by decide +kernel) (by decide +kernel) (fun _ _ _ h => h) (Or.inl ⟨by rfl, ?_⟩) (by assumption) ?_
      rotate_left 1
      · (intro w hSw; (try dsimp only at hSw); go_simp; try (with_reducible rfl))
      try simp only [List.getElem_toArray, List.getElem_cons_zero, List.getElem_cons_succ, Act.put, List.setIfInBounds_toArray, List.set_cons_zero, List.set_cons_succ]
      refine wpAnyH_take (i := 15) (v := ?_) rfl (by decide +kernel) (by decide +kernel) (by decide +kernel) (fun _ _ _ h => h) (Or.inl ⟨by rfl, ?_⟩) (by assumption) ?_
      rotate_left 1
      · (intro w hSw; (try dsimp only at hSw); go_simp; try (with_reducible rfl))
      try simp only [List.getElem_toArray, List.getElem_cons_zero, List.getElem_cons_succ, Act.put, List.setIfInBounds_toArray, List.set_cons_zero, List.set_cons_succ]
      refine wpAnyH_take (i := 17) (v := ?_) rfl (by decide +kernel) (by decide +kernel) (by decide +kernel) (fun _ _ _ h => h) (Or.inl ⟨by rfl, ?_⟩) (by assumption) ?_
      rotate_left 1
      · (intro w hSw; (try dsimp only at hSw); go_simp; try (with_reducible rfl))
      try simp only [List.getElem_toArray, List.getElem_cons_zero, List.getElem_cons_succ, Act.put, List.setIfInBounds_toArray, List.set_cons_zero, List.set_cons_succ]
      refine wpAnyH_take (i := 18) (v := ?_) rfl (by decide +kernel) (by decide +kernel) (by decide +kernel) (fun _ _ _ h => h) (Or.inl ⟨by rfl, ?_⟩) (by assumption) ?_
      rotate_left 1
      · (intro w hSw; (try dsimp only at hSw); go_simp; try (with_reducible rfl))
      try simp only [List.getElem_toArray, List.getElem_cons_zero, List.getElem_cons_succ, Act.put, List.setIfInBounds_toArray, List.set_cons_zero, List.set_cons_succ]
      refine wpAnyH_take (i := 19) (v := ?_) rfl (by decide +kernel) (by decide +kernel) (by decide +kernel) (fun _ _ _ h => h) (Or.inl ⟨by rfl, ?_⟩) (by assumption) ?_
      rotate_left 1
      · (intro w hSw; (try dsimp only at hSw); go_simp; try (with_reducible rfl))
      try simp only [List.getElem_toArray, List.getElem_cons_zero, List.getElem_cons_succ, Act.put, List.setIfInBounds_toArray, List.set_cons_zero, List.set_cons_succ]
      refine wpAnyH_take (i := 20) (v := ?_) rfl (by decide +kernel) (by decide +kernel) (by decide +kernel) (fun _ _ _ h => h) (Or.inl ⟨by rfl, ?_⟩) (by assumption) ?_
      rotate_left 1
      · (intro w hSw; (try dsimp only at hSw); obtain ⟨s1, s2, s3⟩ := hSw; go_simp; rfl)
      try simp only [List.getElem_toArray, List.getElem_cons_zero, List.getElem_cons_succ, Act.put, List.setIfInBounds_toArray, List.set_cons_zero, List.set_cons_succ]
      refine wpAnyH_take (i := 21) (v := ?_) rfl (by decide +kernel) (by decide +kernel) (by decide +kernel) (fun _ _ _ h => h) (Or.inl ⟨by rfl, ?_⟩) (by assumption) ?_
      rotate_left 1
      · (intro w hSw; (try dsimp only at hSw); go_simp; try (with_reducible rfl))
      try simp only [List.getElem_toArray, List.getElem_cons_zero, List.getElem_cons_succ, Act.put, List.setIfInBounds_toArray, List.set_cons_zero, List.set_cons_succ]
      refine wpAnyH_ready (rs := [16]) (by decide +kernel) (by simp) ?_
      refine AllReadyH.cons rfl (fun K hK => ?_) AllReadyH.nil
      go_simp
      (go_at_call 23; (with_reducible refine (cwt).mono ?_); rintro e w6 ⟨rfl, rfl⟩)
      refine hK.out _ _ (⟨y5, y2, y3⟩) (fun hHeld => ?_)
      clear hK K
      try simp only [List.getElem_toArray, List.getElem_cons_zero, List.getElem_cons_succ, Act.put, List.setIfInBounds_toArray, List.set_cons_zero, List.set_cons_succ]
      refine wpAnyH_take (i := 22) (v := ?_) rfl (by decide +kernel) (by decide +kernel) (by decide +kernel) (fun _ _ _ h => h) (Or.inl ⟨by rfl, ?_⟩) (by assumption) ?_
      rotate_left 1
      · (intro w hSw; (try dsimp only at hSw); go_simp; try (with_reducible rfl))
      try simp only [List.getElem_toArray, List.getElem_cons_zero, List.getElem_cons_succ, Act.put, List.setIfInBounds_toArray, List.set_cons_zero, List.set_cons_succ]
      refine wpAnyH_take (i := 23) (v := ?_) rfl (by decide +kernel) (by decide +kernel) (by decide +kernel) (fun _ _ _ h => h) (Or.inl ⟨by rfl, ?_⟩) (by assumption) ?_
      rotate_left 1
      · (intro w hSw; (try dsimp only at hSw); go_simp; try (with_reducible rfl))
      try simp only [List.getElem_toArray, List.getElem_cons_zero, List.getElem_cons_succ, Act.put, List.setIfInBounds_toArray, List.set_cons_zero, List.set_cons_succ]
      refine wpAnyH_take (i := 24) (v := ?_) rfl (by decide +kernel) (by decide +kernel) (by decide +kernel) (fun _ _ _ h => h) (Or.inl ⟨by rfl, ?_⟩) (by assumption) ?_
      rotate_left 1
      · (intro w hSw; (try dsimp only at hSw); go_simp; try (with_reducible rfl))
      try simp only [List.getElem_toArray, List.getElem_cons_zero, List.getElem_cons_succ, Act.put, List.setIfInBounds_toArray, List.set_cons_zero, List.set_cons_succ]
      refine wpAnyH_take (i := 25) (v := ?_) rfl (by decide +kernel) (by decide +kernel) (by decide +kernel) (fun _ _ _ h => h) (Or.inl ⟨by rfl, ?_⟩) (by assumption) ?_
      rotate_left 1
      · (intro w hSw; (try dsimp only at hSw); go_simp; try (with_reducible rfl))
      try simp only [List.getElem_toArray, List.getElem_cons_zero, List.getElem_cons_succ, Act.put, List.setIfInBounds_toArray, List.set_cons_zero, List.set_cons_succ]
      refine wpAnyH_take (i := 27) (v := ?_) rfl (by decide +kernel) (by decide +kernel) (by decide +kernel) (fun _ _ _ h => h) (Or.inl ⟨by rfl, ?_⟩) (by assumption) ?_
      rotate_left 1
      · (intro w hSw; (try dsimp only at hSw); go_simp; try (with_reducible rfl))
      try simp only [List.getElem_toArray, List.getElem_cons_zero, List.getElem_cons_succ, Act.put, List.setIfInBounds_toArray, List.set_cons_zero, List.set_cons_succ]
      refine wpAnyH_take (i := 28) (v := ?_) rfl (by decide +kernel) (by decide +kernel) (by decide +kernel) (fun _ _ _ h => h) (Or.inl ⟨by rfl, ?_⟩) (by assumption) ?_
      rotate_left 1
      · (intro w hSw; (try dsimp only at hSw); go_simp; try (with_reducible rfl))
      try simp only [List.getElem_toArray, List.getElem_cons_zero, List.getElem_cons_succ, Act.put, List.setIfInBounds_toArray, List.set_cons_zero, List.set_cons_succ]
      refine wpAnyH_take (i := 29) (v := ?_) rfl (by decide +kernel) (by decide +kernel) (by decide +kernel) (fun _ _ _ h => h) (Or.inl ⟨by rfl, ?_⟩) (by assumption) ?_
      rotate_left 1
      · (intro w hSw; (try dsimp only at hSw); go_simp; try (with_reducible rfl))
      try simp only [List.getElem_toArray, List.getElem_cons_zero, List.getElem_cons_succ, Act.put, List.setIfInBounds_toArray, List.set_cons_zero, List.set_cons_succ]
      refine wpAnyH_take (i := 30) (v := ?_) rfl (by decide +kernel) (by decide +kernel) (by decide +kernel) (fun _ _ _ h => h) (Or.inl ⟨by rfl, ?_⟩) (by assumption) ?_
      rotate_left 1
      · (intro w hSw; (try dsimp only at hSw); obtain ⟨s1, s2, s3⟩ := hSw; go_simp; rfl)
      try simp only [List.getElem_toArray, List.getElem_cons_zero, List.getElem_cons_succ, Act.put, List.setIfInBounds_toArray, List.set_cons_zero, List.set_cons_succ]
      refine wpAnyH_take (i := 31) (v := ?_) rfl (by decide +kernel) (by decide +kernel) (by decide +kernel) (fun _ _ _ h => h) (Or.inl ⟨by rfl, ?_⟩) (by assumption) ?_
      rotate_left 1
      · (intro w hSw; (try dsimp only at hSw); go_simp; try (with_reducible rfl))
      try simp only [List.getElem_toArray, List.getElem_cons_zero, List.getElem_cons_succ, Act.put, List.setIfInBounds_toArray, List.set_cons_zero, List.set_cons_succ]
      refine wpAnyH_ready (rs := [26]) (by decide +kernel) (by simp) ?_
      refine AllReadyH.cons rfl (fun K hK => ?_) AllReadyH.nil
      go_simp
      (go_at_call 26; (with_reducible refine (clf).mono ?_); rintro e w6 ⟨rfl, rfl⟩)
      refine hK.out _ _ (⟨y5, y2, y3⟩) (fun hHeld => ?_)
      clear hK K
      try simp only [List.getElem_toArray, List.getElem_cons_zero, List.getElem_cons_succ, Act.put, List.setIfInBounds_toArray, List.set_cons_zero, List.set_cons_succ]
      refine wpAnyH_ready (rs := [32]) (by decide +kernel) (by simp) ?_
      refine AllReadyH.cons rfl (fun K hK => ?_) AllReadyH.nil
      go_simp
      (go_at_call 34; (with_reducible refine (cus).mono ?_); rintro e w6 ⟨rfl, rfl⟩)
      refine hK.out _ _ (⟨y5, y2, y3⟩) (fun hHeld => ?_)
      clear hK K
      try simp only [List.getElem_toArray, List.getElem_cons_zero, List.getElem_cons_succ, Act.put, List.setIfInBounds_toArray, List.set_cons_zero, List.set_cons_succ]
      refine wpAnyH_take (i := 33) (v := ?_) rfl (by decide +kernel) (by decide +kernel) (by decide +kernel) (fun _ _ _ h => h) (Or.inl ⟨by rfl, ?_⟩) (by assumption) ?_
      rotate_left 1
      · (intro w hSw; (try dsimp only at hSw); go_simp; try (with_reducible rfl))
      try simp only [List.getElem_toArray, List.getElem_cons_zero, List.getElem_cons_succ, Act.put, List.setIfInBounds_toArray, List.set_cons_zero, List.set_cons_succ]
      refine wpAnyH_take (i := 34) (v := ?_) rfl (by decide +kernel) (by decide +kernel) (by decide +kernel) (fun _ _ _ h => h) (Or.inl ⟨by rfl, ?_⟩) (by assumption) ?_
      rotate_left 1
      · (intro w hSw; (try dsimp only at hSw); go_simp; try (with_reducible rfl))
      try simp only [List.getElem_toArray, List.getElem_cons_zero, List.getElem_cons_succ, Act.put, List.setIfInBounds_toArray, List.set_cons_zero, List.set_cons_succ]
      refine wpAnyH_take (i := 35) (v := ?_) rfl (by decide +kernel) (by decide +kernel) (by decide +kernel) (fun _ _ _ h => h) (Or.inl ⟨by rfl, ?_⟩) (by assumption) ?_
      rotate_left 1
      · (intro w hSw; (try dsimp only at hSw); go_simp; try (with_reducible rfl))
      try simp only [List.getElem_toArray, List.getElem_cons_zero, List.getElem_cons_succ, Act.put, List.setIfInBounds_toArray, List.set_cons_zero, List.set_cons_succ]
      refine wpAnyH_done (by decide +kernel) ?_ _
      clear hHeld y5 y2 y3 con cwt clf cus hwr hr0 hus hbb
      go_wp2
      go_roundw
      case rel =>
        have f1 : Both w5 w2.heap.size p q (stepK D0 l (k + 1)) := by rw [hst.out]; exact H5.out
        first
          | exact ⟨k + 1, by omega, by go_num, f1, B5.out⟩
          | ((repeat apply Exists.intro); exact ⟨⟨k + 1, by omega, by go_num, f1, B5.out⟩, rfl⟩)
      case measure => simp [intOf]; omega
    · have hk9 : k = m0 := by omega
      clear hk9
      generalize stepK D0 l k = D at *
      have cmt := s_meter hB.d
      have cim := s_image hB.d hbs
      have HBB := Lib.hid hB
      have BE := Lib.hid (HB3.out)
      have hkl : D.kept.length ≤ 4096 * 128 := by
        obtain ⟨A9, c9, h9⟩ := hB.d
        have e1 := h9.ok.kept
        have e2 := h9.ok.many1
        rw [e1]; omega
      have HBEL := Lib.hid hbel
      clear hB hbel
      go_wp2_with (first
        | (go_at_call 30; (with_reducible refine (cmt).mono ?_); rintro e w5 ⟨rfl, rfl⟩)
        | fail "no arm")
      have cim1 : Calls Try.prog 25 #[.pointer (some ⟨p.d, 0, none⟩)] wr.drew fun e w' => ∃ B N d, e = .returned (.slice B N d) ∧ OB w' wr.drew.heap.size 5 B N d D.kept ∧ DiskS w' w2.heap.size p D ∧ Step mutD w2.heap.size p wr.drew w' := s_image HBB.out.d.drew hbs
      have bD : Below wr.heap.size wr wr.drew := Below.drew (Below.refl _ _)
      have rD := HBB.out.r.below bD
      refine wp_region_held_drew (S := fun _ => True) (by kernel_rfl) trivial (fun hHeld => ?_)
      refine wpAnyH_take (i := 0) (v := ?_) rfl (by decide +kernel) (by decide +kernel) (by decide +kernel) (fun _ _ _ h => h) (Or.inl ⟨by rfl, ?_⟩) (by assumption) ?_
      rotate_left 1
      · (intro w hSw; (try dsimp only at hSw); go_simp; try (with_reducible rfl))
      try simp only [List.getElem_toArray, List.getElem_cons_zero, List.getElem_cons_succ, Act.put, List.setIfInBounds_toArray, List.set_cons_zero, List.set_cons_succ]
      refine wpAnyH_take (i := 2) (v := ?_) rfl (by decide +kernel) (by decide +kernel) (by decide +kernel) (fun _ _ _ h => h) (Or.inl ⟨by rfl, ?_⟩) (by assumption) ?_
      rotate_left 1
      · (intro w hSw; (try dsimp only at hSw); go_simp; try (with_reducible rfl))
      try simp only [List.getElem_toArray, List.getElem_cons_zero, List.getElem_cons_succ, Act.put, List.setIfInBounds_toArray, List.set_cons_zero, List.set_cons_succ]
      refine wpAnyH_ready (rs := [1]) (by decide +kernel) (by simp) ?_
      refine AllReadyH.cons rfl (fun K hK => ?_) AllReadyH.nil
      go_simp
      (go_at_call 25; (with_reducible refine (cim1).mono ?_); rintro e w6 ⟨I6, N6, i6, rfl, o6, d6, st6⟩)
      have r6 := rD.step HBB.out.d.drew st6 n1 n2 (by decide) (by decide)
      have s6 := st6.size
      have s6' : w2.heap.size ≤ w6.heap.size := Nat.le_trans hbs s6
      have b6 := (HBEL.out.drew).trans st6.bel
      have cim2 := r_image r6 s6'
      refine hK.out _ _ (trivial) (fun hHeld => ?_)
      clear hK K
      try simp only [List.getElem_toArray, List.getElem_cons_zero, List.getElem_cons_succ, Act.put, List.setIfInBounds_toArray, List.set_cons_zero, List.set_cons_succ]
      refine wpAnyH_ready (rs := [3]) (by decide +kernel) (by simp) ?_
      refine AllReadyH.cons rfl (fun K hK => ?_) AllReadyH.nil
      go_simp
      (go_at_call 35; (with_reducible refine (cim2).mono ?_); rintro e w7 ⟨I7, N7, i7, rfl, o7, b7⟩)
      have d7 := d6.below b7
      have r7 := r6.below b7
      have o67 := o6.below b7 (Nat.le_refl _)
      have hN6 : N6 ≤ maxLen := by have e1 := o6.cap; omega
      have hsame := same_any I6 I7 N6 N7 i6 i7 D.kept D.kept w7 o67.rd.rb o7.rd.rb hN6
      rw [decide_eq_true rfl] at hsame
      have B7 := b6.trans (b7.mono s6')
      refine hK.out _ _ (trivial) (fun hHeld => ?_)
      clear hK K
      try simp only [List.getElem_toArray, List.getElem_cons_zero, List.getElem_cons_succ, Act.put, List.setIfInBounds_toArray, List.set_cons_zero, List.set_cons_succ]
      refine wpAnyH_ready (rs := [4]) (by decide +kernel) (by simp) ?_
      refine AllReadyH.cons rfl (fun K hK => ?_) AllReadyH.nil
      go_simp
      (go_at_call 24; (with_reducible refine (hsame).mono ?_); rintro e w8' ⟨rfl, q8, rfl⟩)
      have d8 := d7.below (below_drewN (Below.refl _ _) q8)
      have r8 := r7.below (below_drewN (Below.refl _ _) q8)
      have B8 := below_drewN B7 q8
      generalize w7.drewN q8 = w8 at *
      obtain ⟨A8, ca8, ck8, ci8, h8⟩ := r8
      obtain ⟨_, _, _, _, _, _, y6⟩ := h8.cells
      have z0 : w8.cell? ⟨q.go, 0, none⟩ = some (.int .i64 (mGet D.ops 1)) := h8.op.cell 0
      have z1 : w8.cell? ⟨q.go, 1, none⟩ = some (.int .i64 (mGet D.ops 2)) := h8.op.cell 1
      have z2 : w8.cell? ⟨q.go, 2, none⟩ = some (.int .i64 (mGet D.ops 3)) := h8.op.cell 2
      have k1 : Calls Try.prog 36 #[.pointer (some ⟨p.gc, 0, none⟩), .int .i64 1] w8 fun e w' => e = .returned (.int .i64 (mGet D.ops 1)) ∧ w8 = w' := s_count d8 1
      have k2 : Calls Try.prog 36 #[.pointer (some ⟨p.gc, 0, none⟩), .int .i64 2] w8 fun e w' => e = .returned (.int .i64 (mGet D.ops 2)) ∧ w8 = w' := s_count d8 2
      have k3 : Calls Try.prog 36 #[.pointer (some ⟨p.gc, 0, none⟩), .int .i64 3] w8 fun e w' => e = .returned (.int .i64 (mGet D.ops 3)) ∧ w8 = w' := s_count d8 3
      generalize mGet D.ops 1 = g1 at *
      generalize mGet D.ops 2 = g2 at *
      generalize mGet D.ops 3 = g3 at *
      clear h8 d8 d7 r7 o67 o7 o6 d6 r6 rD cim cim1 cim2 hsame st6
      refine hK.out _ _ (trivial) (fun hHeld => ?_)
      clear hK K
      try simp only [List.getElem_toArray, List.getElem_cons_zero, List.getElem_cons_succ, Act.put, List.setIfInBounds_toArray, List.set_cons_zero, List.set_cons_succ]
      refine wpAnyH_more (S' := fun w' => w'.cell? ⟨q.d, 6, none⟩ = some (.slice (some ⟨q.go, 0, none⟩) 3 3) ∧ w'.cell? ⟨q.go, 0, none⟩ = some (.int .i64 g1) ∧ w'.cell? ⟨q.go, 1, none⟩ = some (.int .i64 g2) ∧ w'.cell? ⟨q.go, 2, none⟩ = some (.int .i64 g3)) (fun _ _ => trivial) _ _ _ _ ?_
      clear hHeld
      have hHeld := And.intro y6 (And.intro z0 (And.intro z1 z2))
      refine wpAnyH_take (i := 5) (v := ?_) rfl (by decide +kernel) (by decide +kernel) (by decide +kernel) (fun _ _ _ h => h) (Or.inl ⟨by rfl, ?_⟩) (by assumption) ?_
      rotate_left 1
      · (intro w hSw; (try dsimp only at hSw); go_simp; try (with_reducible rfl))
      try simp only [List.getElem_toArray, List.getElem_cons_zero, List.getElem_cons_succ, Act.put, List.setIfInBounds_toArray, List.set_cons_zero, List.set_cons_succ]
      refine wpAnyH_take (i := 6) (v := ?_) rfl (by decide +kernel) (by decide +kernel) (by decide +kernel) (fun _ _ _ h => h) (Or.inl ⟨by rfl, ?_⟩) (by assumption) ?_
      rotate_left 1
      · (intro w hSw; (try dsimp only at hSw); go_simp; try (with_reducible rfl))
      try simp only [List.getElem_toArray, List.getElem_cons_zero, List.getElem_cons_succ, Act.put, List.setIfInBounds_toArray, List.set_cons_zero, List.set_cons_succ]
      refine wpAnyH_take (i := 8) (v := ?_) rfl (by decide +kernel) (by decide +kernel) (by decide +kernel) (fun _ _ _ h => h) (Or.inl ⟨by rfl, ?_⟩) (by assumption) ?_
      rotate_left 1
      · (intro w hSw; (try dsimp only at hSw); go_simp; try (with_reducible rfl))
      try simp only [List.getElem_toArray, List.getElem_cons_zero, List.getElem_cons_succ, Act.put, List.setIfInBounds_toArray, List.set_cons_zero, List.set_cons_succ]
      refine wpAnyH_take (i := 9) (v := ?_) rfl (by decide +kernel) (by decide +kernel) (by decide +kernel) (fun _ _ _ h => h) (Or.inl ⟨by rfl, ?_⟩) (by assumption) ?_
      rotate_left 1
      · (intro w hSw; (try dsimp only at hSw); go_simp; try (with_reducible rfl))
      try simp only [List.getElem_toArray, List.getElem_cons_zero, List.getElem_cons_succ, Act.put, List.setIfInBounds_toArray, List.set_cons_zero, List.set_cons_succ]
      refine wpAnyH_take (i := 10) (v := ?_) rfl (by decide +kernel) (by decide +kernel) (by decide +kernel) (fun _ _ _ h => h) (Or.inl ⟨by rfl, ?_⟩) (by assumption) ?_
      rotate_left 1
      · (intro w hSw; (try dsimp only at hSw); go_simp; try (with_reducible rfl))
      try simp only [List.getElem_toArray, List.getElem_cons_zero, List.getElem_cons_succ, Act.put, List.setIfInBounds_toArray, List.set_cons_zero, List.set_cons_succ]
      refine wpAnyH_take (i := 11) (v := ?_) rfl (by decide +kernel) (by decide +kernel) (by decide +kernel) (fun _ _ _ h => h) (Or.inl ⟨by rfl, ?_⟩) (by assumption) ?_
      rotate_left 1
      · (intro w hSw; (try dsimp only at hSw); obtain ⟨s1, s2, s3, s4⟩ := hSw; go_simp; rfl)
      try simp only [List.getElem_toArray, List.getElem_cons_zero, List.getElem_cons_succ, Act.put, List.setIfInBounds_toArray, List.set_cons_zero, List.set_cons_succ]
      refine wpAnyH_take (i := 12) (v := ?_) rfl (by decide +kernel) (by decide +kernel) (by decide +kernel) (fun _ _ _ h => h) (Or.inl ⟨by rfl, ?_⟩) (by assumption) ?_
      rotate_left 1
      · (intro w hSw; (try dsimp only at hSw); go_simp; try (with_reducible rfl))
      try simp only [List.getElem_toArray, List.getElem_cons_zero, List.getElem_cons_succ, Act.put, List.setIfInBounds_toArray, List.set_cons_zero, List.set_cons_succ]
      refine wpAnyH_take (i := 13) (v := ?_) rfl (by decide +kernel) (by decide +kernel) (by decide +kernel) (fun _ _ _ h => h) (Or.inl ⟨by rfl, ?_⟩) (by assumption) ?_
      rotate_left 1
      · (intro w hSw; (try dsimp only at hSw); obtain ⟨s1, s2, s3, s4⟩ := hSw; go_simp; rfl)
      try simp only [List.getElem_toArray, List.getElem_cons_zero, List.getElem_cons_succ, Act.put, List.setIfInBounds_toArray, List.set_cons_zero, List.set_cons_succ]
      refine wpAnyH_ready (rs := [7]) (by decide +kernel) (by simp) ?_
      refine AllReadyH.cons rfl (fun K hK => ?_) AllReadyH.nil
      go_simp
      (go_at_call 36; (with_reducible refine (k1).mono ?_); rintro e w9 ⟨rfl, rfl⟩)
      refine hK.out _ _ (⟨y6, z0, z1, z2⟩) (fun hHeld => ?_)
      clear hK K
      try simp only [List.getElem_toArray, List.getElem_cons_zero, List.getElem_cons_succ, Act.put, List.setIfInBounds_toArray, List.set_cons_zero, List.set_cons_succ]
      refine wpAnyH_take (i := 14) (v := ?_) rfl (by decide +kernel) (by decide +kernel) (by decide +kernel) (fun _ _ _ h => h) (Or.inl ⟨by rfl, ?_⟩) (by assumption) ?_
      rotate_left 1
      · (intro w hSw; (try dsimp only at hSw); go_simp; try (with_reducible rfl))
      try simp only [List.getElem_toArray, List.getElem_cons_zero, List.getElem_cons_succ, Act.put, List.setIfInBounds_toArray, List.set_cons_zero, List.set_cons_succ]
      refine wpAnyH_take (i := 15) (v := ?_) rfl (by decide +kernel) (by decide +kernel) (by decide +kernel) (fun _ _ _ h => h) (Or.inl ⟨by rfl, ?_⟩) (by assumption) ?_
      rotate_left 1
      · (intro w hSw; (try dsimp only at hSw); go_simp; try (with_reducible rfl))
      try simp only [List.getElem_toArray, List.getElem_cons_zero, List.getElem_cons_succ, Act.put, List.setIfInBounds_toArray, List.set_cons_zero, List.set_cons_succ]
      refine wpAnyH_take (i := 16) (v := ?_) rfl (by decide +kernel) (by decide +kernel) (by decide +kernel) (fun _ _ _ h => h) (Or.inl ⟨by rfl, ?_⟩) (by assumption) ?_
      rotate_left 1
      · (intro w hSw; (try dsimp only at hSw); go_simp; try (with_reducible rfl))
      try simp only [List.getElem_toArray, List.getElem_cons_zero, List.getElem_cons_succ, Act.put, List.setIfInBounds_toArray, List.set_cons_zero, List.set_cons_succ]
      refine wpAnyH_take (i := 17) (v := ?_) rfl (by decide +kernel) (by decide +kernel) (by decide +kernel) (fun _ _ _ h => h) (Or.inl ⟨by rfl, ?_⟩) (by assumption) ?_
      rotate_left 1
      · (intro w hSw; (try dsimp only at hSw); go_simp; try (with_reducible rfl))
      try simp only [List.getElem_toArray, List.getElem_cons_zero, List.getElem_cons_succ, Act.put, List.setIfInBounds_toArray, List.set_cons_zero, List.set_cons_succ]
      refine wpAnyH_take (i := 19) (v := ?_) rfl (by decide +kernel) (by decide +kernel) (by decide +kernel) (fun _ _ _ h => h) (Or.inl ⟨by rfl, ?_⟩) (by assumption) ?_
      rotate_left 1
      · (intro w hSw; (try dsimp only at hSw); go_simp; try (with_reducible rfl))
      try simp only [List.getElem_toArray, List.getElem_cons_zero, List.getElem_cons_succ, Act.put, List.setIfInBounds_toArray, List.set_cons_zero, List.set_cons_succ]
      refine wpAnyH_take (i := 20) (v := ?_) rfl (by decide +kernel) (by decide +kernel) (by decide +kernel) (fun _ _ _ h => h) (Or.inl ⟨by rfl, ?_⟩) (by assumption) ?_
      rotate_left 1
      · (intro w hSw; (try dsimp only at hSw); go_simp; try (with_reducible rfl))
      try simp only [List.getElem_toArray, List.getElem_cons_zero, List.getElem_cons_succ, Act.put, List.setIfInBounds_toArray, List.set_cons_zero, List.set_cons_succ]
      refine wpAnyH_take (i := 21) (v := ?_) rfl (by decide +kernel) (by decide +kernel) (by decide +kernel) (fun _ _ _ h => h) (Or.inl ⟨by rfl, ?_⟩) (by assumption) ?_
      rotate_left 1
      · (intro w hSw; (try dsimp only at hSw); go_simp; try (with_reducible rfl))
      try simp only [List.getElem_toArray, List.getElem_cons_zero, List.getElem_cons_succ, Act.put, List.setIfInBounds_toArray, List.set_cons_zero, List.set_cons_succ]
      refine wpAnyH_take (i := 22) (v := ?_) rfl (by decide +kernel) (by decide +kernel) (by decide +kernel) (fun _ _ _ h => h) (Or.inl ⟨by rfl, ?_⟩) (by assumption) ?_
      rotate_left 1
      · (intro w hSw; (try dsimp only at hSw); obtain ⟨s1, s2, s3, s4⟩ := hSw; go_simp; rfl)
      try simp only [List.getElem_toArray, List.getElem_cons_zero, List.getElem_cons_succ, Act.put, List.setIfInBounds_toArray, List.set_cons_zero, List.set_cons_succ]
      refine wpAnyH_take (i := 23) (v := ?_) rfl (by decide +kernel) (by decide +kernel) (by decide +kernel) (fun _ _ _ h => h) (Or.inl ⟨by rfl, ?_⟩) (by assumption) ?_
      rotate_left 1
      · (intro w hSw; (try dsimp only at hSw); go_simp; try (with_reducible rfl))
      try simp only [List.getElem_toArray, List.getElem_cons_zero, List.getElem_cons_succ, Act.put, List.setIfInBounds_toArray, List.set_cons_zero, List.set_cons_succ]
      refine wpAnyH_take (i := 24) (v := ?_) rfl (by decide +kernel) (by decide +kernel) (by decide +kernel) (fun _ _ _ h => h) (Or.inl ⟨by rfl, ?_⟩) (by assumption) ?_
      rotate_left 1
      · (intro w hSw; (try dsimp only at hSw); obtain ⟨s1, s2, s3, s4⟩ := hSw; go_simp; rfl)
      try simp only [List.getElem_toArray, List.getElem_cons_zero, List.getElem_cons_succ, Act.put, List.setIfInBounds_toArray, List.set_cons_zero, List.set_cons_succ]
      refine wpAnyH_ready (rs := [18]) (by decide +kernel) (by simp) ?_
      refine AllReadyH.cons rfl (fun K hK => ?_) AllReadyH.nil
      go_simp
      (go_at_call 36; (with_reducible refine (k2).mono ?_); rintro e w9 ⟨rfl, rfl⟩)
      refine hK.out _ _ (⟨y6, z0, z1, z2⟩) (fun hHeld => ?_)
      clear hK K
      try simp only [List.getElem_toArray, List.getElem_cons_zero, List.getElem_cons_succ, Act.put, List.setIfInBounds_toArray, List.set_cons_zero, List.set_cons_succ]
      refine wpAnyH_take (i := 25) (v := ?_) rfl (by decide +kernel) (by decide +kernel) (by decide +kernel) (fun _ _ _ h => h) (Or.inl ⟨by rfl, ?_⟩) (by assumption) ?_
      rotate_left 1
      · (intro w hSw; (try dsimp only at hSw); go_simp; try (with_reducible rfl))
      try simp only [List.getElem_toArray, List.getElem_cons_zero, List.getElem_cons_succ, Act.put, List.setIfInBounds_toArray, List.set_cons_zero, List.set_cons_succ]
      refine wpAnyH_take (i := 26) (v := ?_) rfl (by decide +kernel) (by decide +kernel) (by decide +kernel) (fun _ _ _ h => h) (Or.inl ⟨by rfl, ?_⟩) (by assumption) ?_
      rotate_left 1
      · (intro w hSw; (try dsimp only at hSw); go_simp; try (with_reducible rfl))
      try simp only [List.getElem_toArray, List.getElem_cons_zero, List.getElem_cons_succ, Act.put, List.setIfInBounds_toArray, List.set_cons_zero, List.set_cons_succ]
      refine wpAnyH_take (i := 27) (v := ?_) rfl (by decide +kernel) (by decide +kernel) (by decide +kernel) (fun _ _ _ h => h) (Or.inl ⟨by rfl, ?_⟩) (by assumption) ?_
      rotate_left 1
      · (intro w hSw; (try dsimp only at hSw); go_simp; try (with_reducible rfl))
      try simp only [List.getElem_toArray, List.getElem_cons_zero, List.getElem_cons_succ, Act.put, List.setIfInBounds_toArray, List.set_cons_zero, List.set_cons_succ]
      refine wpAnyH_take (i := 28) (v := ?_) rfl (by decide +kernel) (by decide +kernel) (by decide +kernel) (fun _ _ _ h => h) (Or.inl ⟨by rfl, ?_⟩) (by assumption) ?_
      rotate_left 1
      · (intro w hSw; (try dsimp only at hSw); go_simp; try (with_reducible rfl))
      try simp only [List.getElem_toArray, List.getElem_cons_zero, List.getElem_cons_succ, Act.put, List.setIfInBounds_toArray, List.set_cons_zero, List.set_cons_succ]
      refine wpAnyH_take (i := 30) (v := ?_) rfl (by decide +kernel) (by decide +kernel) (by decide +kernel) (fun _ _ _ h => h) (Or.inl ⟨by rfl, ?_⟩) (by assumption) ?_
      rotate_left 1
      · (intro w hSw; (try dsimp only at hSw); go_simp; try (with_reducible rfl))
      try simp only [List.getElem_toArray, List.getElem_cons_zero, List.getElem_cons_succ, Act.put, List.setIfInBounds_toArray, List.set_cons_zero, List.set_cons_succ]
      refine wpAnyH_take (i := 31) (v := ?_) rfl (by decide +kernel) (by decide +kernel) (by decide +kernel) (fun _ _ _ h => h) (Or.inl ⟨by rfl, ?_⟩) (by assumption) ?_
      rotate_left 1
      · (intro w hSw; (try dsimp only at hSw); go_simp; try (with_reducible rfl))
      try simp only [List.getElem_toArray, List.getElem_cons_zero, List.getElem_cons_succ, Act.put, List.setIfInBounds_toArray, List.set_cons_zero, List.set_cons_succ]
      refine wpAnyH_take (i := 32) (v := ?_) rfl (by decide +kernel) (by decide +kernel) (by decide +kernel) (fun _ _ _ h => h) (Or.inl ⟨by rfl, ?_⟩) (by assumption) ?_
      rotate_left 1
      · (intro w hSw; (try dsimp only at hSw); go_simp; try (with_reducible rfl))
      try simp only [List.getElem_toArray, List.getElem_cons_zero, List.getElem_cons_succ, Act.put, List.setIfInBounds_toArray, List.set_cons_zero, List.set_cons_succ]
      refine wpAnyH_take (i := 33) (v := ?_) rfl (by decide +kernel) (by decide +kernel) (by decide +kernel) (fun _ _ _ h => h) (Or.inl ⟨by rfl, ?_⟩) (by assumption) ?_
      rotate_left 1
      · (intro w hSw; (try dsimp only at hSw); obtain ⟨s1, s2, s3, s4⟩ := hSw; go_simp; rfl)
      try simp only [List.getElem_toArray, List.getElem_cons_zero, List.getElem_cons_succ, Act.put, List.setIfInBounds_toArray, List.set_cons_zero, List.set_cons_succ]
      refine wpAnyH_take (i := 34) (v := ?_) rfl (by decide +kernel) (by decide +kernel) (by decide +kernel) (fun _ _ _ h => h) (Or.inl ⟨by rfl, ?_⟩) (by assumption) ?_
      rotate_left 1
      · (intro w hSw; (try dsimp only at hSw); go_simp; try (with_reducible rfl))
      try simp only [List.getElem_toArray, List.getElem_cons_zero, List.getElem_cons_succ, Act.put, List.setIfInBounds_toArray, List.set_cons_zero, List.set_cons_succ]
      refine wpAnyH_take (i := 35) (v := ?_) rfl (by decide +kernel) (by decide +kernel) (by decide +kernel) (fun _ _ _ h => h) (Or.inl ⟨by rfl, ?_⟩) (by assumption) ?_
      rotate_left 1
      · (intro w hSw; (try dsimp only at hSw); obtain ⟨s1, s2, s3, s4⟩ := hSw; go_simp; rfl)
      try simp only [List.getElem_toArray, List.getElem_cons_zero, List.getElem_cons_succ, Act.put, List.setIfInBounds_toArray, List.set_cons_zero, List.set_cons_succ]
      refine wpAnyH_ready (rs := [29]) (by decide +kernel) (by simp) ?_
      refine AllReadyH.cons rfl (fun K hK => ?_) AllReadyH.nil
      go_simp
      (go_at_call 36; (with_reducible refine (k3).mono ?_); rintro e w9 ⟨rfl, rfl⟩)
      refine hK.out _ _ (⟨y6, z0, z1, z2⟩) (fun hHeld => ?_)
      clear hK K
      try simp only [List.getElem_toArray, List.getElem_cons_zero, List.getElem_cons_succ, Act.put, List.setIfInBounds_toArray, List.set_cons_zero, List.set_cons_succ]
      refine wpAnyH_take (i := 36) (v := ?_) rfl (by decide +kernel) (by decide +kernel) (by decide +kernel) (fun _ _ _ h => h) (Or.inl ⟨by rfl, ?_⟩) (by assumption) ?_
      rotate_left 1
      · (intro w hSw; (try dsimp only at hSw); go_simp; try (with_reducible rfl))
      try simp only [List.getElem_toArray, List.getElem_cons_zero, List.getElem_cons_succ, Act.put, List.setIfInBounds_toArray, List.set_cons_zero, List.set_cons_succ]
      refine wpAnyH_take (i := 37) (v := ?_) rfl (by decide +kernel) (by decide +kernel) (by decide +kernel) (fun _ _ _ h => h) (Or.inl ⟨by rfl, ?_⟩) (by assumption) ?_
      rotate_left 1
      · (intro w hSw; (try dsimp only at hSw); go_simp; try (with_reducible rfl))
      try simp only [List.getElem_toArray, List.getElem_cons_zero, List.getElem_cons_succ, Act.put, List.setIfInBounds_toArray, List.set_cons_zero, List.set_cons_succ]
      refine wpAnyH_take (i := 38) (v := ?_) rfl (by decide +kernel) (by decide +kernel) (by decide +kernel) (fun _ _ _ h => h) (Or.inl ⟨by rfl, ?_⟩) (by assumption) ?_
      rotate_left 1
      · (intro w hSw; (try dsimp only at hSw); go_simp; try (with_reducible rfl))
      try simp only [List.getElem_toArray, List.getElem_cons_zero, List.getElem_cons_succ, Act.put, List.setIfInBounds_toArray, List.set_cons_zero, List.set_cons_succ]
      refine wpAnyH_done (by decide +kernel) ?_ _
      have HB8 := Lib.hid B8
      clear hHeld y6 z0 z1 z2 k1 k2 k3 B8
      go_wp2
      go_ret
      exact ⟨rfl, B2.out.trans (HB8.out.mono s2)⟩
theorem walk (w : World) (A0 : Option Addr) (n c0 : Nat) (img : List UInt8) (hr : RB w A0 n img) (nc : n ≤ c0) (cm : c0 ≤ maxLen) (v1 : Value) (x1 : ∃ s t, v1 = .agg #[.int .i64 s, .int .i64 t] ∧ (-9223372036854775808 ≤ s ∧ s ≤ 9223372036854775807) ∧ (-9223372036854775808 ≤ t ∧ t ≤ 9223372036854775807)) (v2 : Value) (x2 : ∃ A n c l, v2 = .slice A n c ∧ DosRd w A n l ∧ n ≤ c ∧ c ≤ maxLen) :
    Calls Try.prog 6 #[.slice A0 n c0, v1, v2] w fun e w' => e = .returned (.bool true) ∧ Below w.heap.size w w' := by
  obtain ⟨s, r, rfl, hs, hrr⟩ := x1
  obtain ⟨C0, m0, d0, l, rfl, h1, nc1, cm1⟩ := x2
  have hn : n ≤ maxLen := by omega
  have hm : m0 ≤ maxLen := by omega
  cases q : few6B l with
  | false => exact walk_few A0 C0 n m0 c0 d0 s r l w h1 hn hm (.inl q)
  | true =>
    by_cases h3 : 3000 < n
    · exact walk_few A0 C0 n m0 c0 d0 s r l w h1 hn hm (.inr (.inl ⟨q, h3⟩))
    by_cases h4 : 30 < s ∧ s ≤ 4096
    · exact walk_few A0 C0 n m0 c0 d0 s r l w h1 hn hm (.inr (.inr ⟨q, by omega, h4.1, h4.2⟩))
    by_cases hb : s < 1 ∨ 4096 < s ∨ r < 0 ∨ s < r ∨ s * 128 < n
    · exact walk_no A0 C0 n m0 c0 d0 s r 2 img l w hr h1 (by omega) hm q (by omega) (by omega) (fun w' _ => load_arg A0 n c0 s r w' hb hn hs.2) (fun w' _ => (rload_arg A0 n c0 s r w' hn hb).mono fun e w'' ⟨e1, e2⟩ => ⟨e1, e2 ▸ Below.refl _ _⟩)
    · obtain ⟨many, rfl⟩ : ∃ many : Nat, s = (many : Int) := ⟨s.toNat, by omega⟩
      have hus : usedN img = (n + 127) / 128 := by unfold usedN; rw [hr.1]
      by_cases hu : (usedN img : Int) ≤ r
      · exact walk_main A0 C0 n m0 c0 d0 many r img l w hr nc h1 (by omega) hm q (by omega) (by omega) (by omega) (by omega) (by omega) hu
      · exact walk_no A0 C0 n m0 c0 d0 (many : Int) r 52 img l w hr h1 (by omega) hm q (by omega) (by omega) (fun w' _ => load_full A0 n c0 many r w' (by omega) (by omega) (by omega) (by omega) (by omega) (by rw [hus] at hu; omega)) (fun w' hr' => rload_any A0 n c0 many r img w' hr' (by omega) (by omega) (by omega) (by omega) (by omega) _ (fun h => absurd h hu) (fun _ e w'' h => h))

--FRAME tompionlaw06 DiskDoes diskDoes walk bytes raw:[2]int:args_two:.agg‹_›#[.int‹_›.i64‹_›0,‹_›.int‹_›.i64‹_›0] raw:[]tompionlaw06.Do:args_dos:.slice‹_›none‹_›0‹_›0
theorem own : ownKnob Try.prog.godebug = none := by kernel_rfl
theorem laidOut : laidOutB Try.prog = true := by kernel_rfl

set_option maxRecDepth 100000 in
theorem lifted (os : Os) (started : os.Started) (H : Type) (enc : TypeId × Value → H) :
    ReturnsInHanded {} Try.checked os 6 .any (Rows.diskDoesSpec.pre6 enc Try.prog Try.f6 Rows.diskDoesRow.domain false) (Rows.diskDoesSpec.post enc Try.prog Try.f6 false true false false) := by
  refine returnsInHanded_of_change (C := Try.checked) own started (by kernel_rfl) Try.func6
    (ChangeSpec.witness6 (enc := enc) (C := Try.checked) false ⟨#[], #[.slice none 0 0, .agg #[.int .i64 0, .int .i64 0], .slice none 0 0], []⟩ 8 (by kernel_rfl) (by kernel_rfl) (by kernel_rfl) (by kernel_rfl)) ?_
  intro W base args ds gs before hval0 hW hcnd _
  have hval : ∀ (j : Nat) t v, Try.f6.params[j]? = some t → args[j]? = some v → Value.okWide Try.prog W .any base t v := hval0
  have hW' := hW
  obtain ⟨p, q, hA0, hV, rfl, hfz, hnd⟩ := hW
  have hA : DataW.TrodAll enc Try.prog W 0 (fun _ => true) true Try.f6.params.toList args.toList ds p := hA0
  rw [Try.params6] at hA hval
  obtain ⟨v0, vs0, d0, ds0, p0, q0, hargs, rfl, rfl, h0, rr0⟩ := trodAll_cons hA
  obtain ⟨v1, vs1, d1, ds1, p1, q1, rfl, rfl, rfl, h1, rr1⟩ := trodAll_cons rr0
  obtain ⟨v2, vs2, d2, ds2, p2, q2, rfl, rfl, rfl, h2, rr2⟩ := trodAll_cons rr1
  obtain ⟨rfl, rfl, rfl⟩ := trodAll_nil rr2
  obtain rfl : args = #[v0, v1, v2] := by cases args; simp_all
  obtain ⟨rfl, rfl⟩ := trodVars_none hV
  have k0 := h0
  have lt0 : ∀ x ∈ p0, x.block < W.heap.size := by obtain ⟨m, hm⟩ := k0; exact DataW.trod_lt m _ _ _ hm
  obtain ⟨A0, n0, c0, l0, rfl, r0, nc0, cm0⟩ := args_bytes Try.underlying23 Try.underlying5 (by kernel_rfl) (hval 0 23 v0 rfl rfl) h0
  have k1 := h1
  have lt1 : ∀ x ∈ p1, x.block < W.heap.size := by obtain ⟨m, hm⟩ := k1; exact DataW.trod_lt m _ _ _ hm
  have x1 := args_two (hval 1 55 v1 rfl rfl) h1
  have k2 := h2
  have lt2 : ∀ x ∈ p2, x.block < W.heap.size := by obtain ⟨m, hm⟩ := k2; exact DataW.trod_lt m _ _ _ hm
  have x2 := args_dos (hval 2 22 v2 rfl rfl) h2
  clear hA0 hval0
  refine (walk W A0 n0 c0 l0 r0 nc0 cm0 v1 x1 v2 x2).mono fun e W' ⟨he, bel⟩ => ?_
  subst he
  exact ⟨_, rfl, _, _, _, [], _, [], hW', trodAll_mk1 (shut_bool Try.underlying4 _), (trodAll_cons_mk (Below.trod laidOut (by kernel_rfl) (of_decide_eq_true (by kernel_rfl)) k0 bel lt0) (trodAll_cons_mk (Below.trod laidOut (by kernel_rfl) (of_decide_eq_true (by kernel_rfl)) k1 bel lt1) (trodAll_cons_mk (Below.trod laidOut (by kernel_rfl) (of_decide_eq_true (by kernel_rfl)) k2 bel lt2) trodAll_mk0))), rfl, bel.frame _, fun h => by cases h⟩

theorem over : Rows.diskDoesRow.holds Try.pinned (OpenSpec.ofChange Rows.diskDoesSpec) :=
  OpenClaim.holds_of_wide 6 Try.f6 rfl rfl rfl rfl rfl rfl rfl ⟨rfl, rfl, rfl, rfl, rfl⟩ rfl rfl rfl rfl rfl (by kernel_rfl) Try.func6 (by kernel_rfl)
    (of_decide_eq_true (by kernel_rfl)) (by unfold Func.isWrapper; first | (rw [if_pos (by decide +kernel)]; kernel_rfl) | (rw [if_neg (by decide +kernel)]; exact ⟨rfl, rfl⟩))
    (fun os started H enc _ => lifted os started H enc)

theorem proved : Rows.DiskDoesSaid := over
--ENDFRAME
end Go.Proofs.Ytninidpbchcliaa.diskDoes
