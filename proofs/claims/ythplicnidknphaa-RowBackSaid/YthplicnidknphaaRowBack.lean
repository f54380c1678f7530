/- RowBack: what is written is read, and has no more bytes than there may be; whatever is read fits, and has just the bytes that it was read of. -/
import Derived.Test.YthplicnidknphaaRowLawA
import Derived.Test.YthplicnidknphaaFrame
namespace Go.Proofs.Ythplicnidknphaa.rowBack
open Go.ChangeShapes Go.WideShapes Go.ChangeAt Go.RowKit
set_option linter.unusedVariables false

theorem walk_big (A B C : Option Addr) (n m k c d f : Nat) (w : World) (h : 20 < n ∨ 20 < m ∨ 200 < k) (hn : n ≤ maxLen) (hm : m ≤ maxLen) (hk : k ≤ maxLen) :
    Calls Try.prog 5 #[.slice A n c, .slice B m d, .slice C k f] w fun e w' => e = .returned (.bool true) ∧ Below w.heap.size w w' := by
  by_cases h1 : 20 < n ∨ 20 < m
  · have hfew := fun w => few4_no A B n m c d w h1 hn hm
    unfold maxLen at hk
    clear h h1
    go_enter Try.func5, Try.ntmps5
    go_wp2_with (first
      | (go_at_call 15; (with_reducible refine (awake4 _).mono ?_); rintro e w1 ⟨rfl, hb⟩)
      | (go_at_call 16; (with_reducible refine (hfew _).mono ?_); rintro e w2 ⟨rfl, rfl⟩))
    go_ret
    exact ⟨rfl, hb⟩
  · have hfew := fun w => few4_yes A B n m c d w (by omega) (by omega)
    have h2 : 200 < k := by omega
    unfold maxLen at hk
    clear h h1
    go_enter Try.func5, Try.ntmps5
    go_wp2_with (first
      | (go_at_call 15; (with_reducible refine (awake4 _).mono ?_); rintro e w1 ⟨rfl, hb⟩)
      | (go_at_call 16; (with_reducible refine (hfew _).mono ?_); rintro e w2 ⟨rfl, rfl⟩))
    go_ret
    exact ⟨rfl, hb⟩

/-- The second half: what is read of any bytes. -/
def Half (x : List Int) (z : Nat) (b : List UInt8) (n : Nat) (P : Prop) : Prop := (z ≠ 0 ∧ x = []) ∨ (z = 0 ∧ P)
theorem intAt_mem {l : List Int} (h : ∀ z ∈ l, -9223372036854775808 ≤ z ∧ z ≤ 9223372036854775807) : ∀ i, i < l.length → -9223372036854775808 ≤ intAt l i ∧ intAt l i ≤ 9223372036854775807 :=
  fun i hi => h _ (by unfold intAt; simp [List.getD_eq_getElem?_getD, hi])

set_option maxHeartbeats 1000000 in
theorem walk_small (A B C : Option Addr) (n m k c d f : Nat) (ts l : List Int) (b : List UInt8) (w : World) (hn : n ≤ 20) (hm : m ≤ 20) (hk : k ≤ 200) (ht : RI w A n ts) (hl : RI w B m l) (hb : RB w C k b)
    (hwf : ∀ z ∈ l, -9223372036854775808 ≤ z ∧ z ≤ 9223372036854775807) (hkf : k ≤ f) (hf : f ≤ maxLen) :
    Calls Try.prog 5 #[.slice A n c, .slice B m d, .slice C k f] w fun e w' => e = .returned (.bool true) ∧ Below w.heap.size w w' := by
  have hn' : n ≤ maxLen := by unfold maxLen; omega
  have hm' : m ≤ maxLen := by unfold maxLen; omega
  have hfew := fun w => few4_yes A B n m c d w hn hm
  have hbd := intAt_mem hwf
  -- what is written
  have hone : (∃ z : Int, z ≠ 0 ∧ ∀ w, RI w A n ts → RI w B m l → Calls Try.prog 23 #[.slice A n c, .slice B m d] w fun e w' => e = .returned (.tuple #[.slice none 0 0, .int .i64 z]) ∧ w = w') ∨
      (∃ R : List UInt8, (∀ w, RI w A n ts → RI w B m l → Calls Try.prog 23 #[.slice A n c, .slice B m d] w fun e w' => ∃ A' N c', e = .returned (.tuple #[.slice A' N c', .int .i64 0]) ∧ OB w' w.heap.size 5 A' N c' R ∧ Below w.heap.size w w') ∧
        R.length ≤ 200 ∧ R.length ≤ sizeR ts ∧ ∀ (D : Option Addr) (g : Nat) (w : World), RI w A n ts → RB w D R.length R → R.length ≤ g → g ≤ maxLen →
          Calls Try.prog 26 #[.slice A n c, .slice D R.length g] w (ReadEnd w (l, 0))) := by
    cases hr : rightB ts with
    | false => exact .inl ⟨2, by omega, fun w h k => write_arg A B n m c d ts w h hn' hr⟩
    | true =>
      cases hfi : fitsB ts l with
      | false => exact .inl ⟨41, by omega, fun w h k => write_row A B n m c d ts l w h k hn' hm' hr hfi⟩
      | true =>
        refine .inr ⟨rowB ts l ts.length, fun w h k => write_ok A B n m c d ts l w h k hn' hm' hfi hbd, ?_, ?_, fun D g w h1 h2 h3 h4 => ?_⟩
        · have := rowB_len10 ts l ts.length; have := ht.1; omega
        · unfold sizeR; rw [hr, if_pos rfl]; exact rowB_len ts l _ (rightB_true.1 hr).1
        · have := read_row A D n _ c g ts _ w h1 h2 hn' h3 h4
          rwa [readR_rowB hfi hbd] at this
  have hsz := fun w h => size_row A n c ts w h hn'
  have h1 := fun w h k' => read_row A C n k c f ts b w h k' hn' hkf hf
  have hlen := readR_len ts b
  have htwo : ((readR ts b).2 ≠ 0 ∧ (readR ts b).1 = []) ∨ ((readR ts b).2 = 0 ∧
      (∀ (D : Option Addr) (m' g : Nat) (w : World), RI w A n ts → RI w D m' (readR ts b).1 → m' ≤ maxLen → Calls Try.prog 23 #[.slice A n c, .slice D m' g] w fun e w' => ∃ A' N c', e = .returned (.tuple #[.slice A' N c', .int .i64 0]) ∧ OB w' w.heap.size 5 A' N c' b ∧ Below w.heap.size w w') ∧
      (∀ (D : Option Addr) (m' g : Nat) (w : World), RI w A n ts → RI w D m' (readR ts b).1 → m' ≤ maxLen → Calls Try.prog 19 #[.slice A n c, .slice D m' g] w fun e w' => e = .returned (.bool true) ∧ w = w')) := by
    by_cases h : (readR ts b).2 = 0
    · obtain ⟨b1, b2, b3⟩ := readR_back h
      refine .inr ⟨h, fun D m' g w h1 h2 h3 => ?_, fun D m' g w h1 h2 h3 => ?_⟩
      · have := write_ok A D n m' c g ts _ w h1 h2 hn' h3 b1 b3
        rwa [b2] at this
      · have := fits_any A D n m' c g ts _ w h1 h2 hn' h3
        rwa [b1] at this
    · exact .inl ⟨h, hlen.2.2 h⟩
  generalize readR ts b = r at *
  obtain ⟨x, z⟩ := r
  simp only at hlen htwo
  have hl8 := hlen.1
  clear hlen hwf hbd
  have hints : ∀ (A B : Option Addr) (n m c d : Nat) (w : World), RI w A n l → RI w B m l → Calls Try.prog 28 #[.slice A n c, .slice B m d] w fun e w' => e = .returned (.bool true) ∧ ∃ q, w' = w.drewN q :=
    fun A B n m c d w ha hb => (ints_any A B n m c d _ _ w ha hb (by have := ha.1; have := hl.1; unfold maxLen; omega)).mono fun e w' ⟨h1, h2⟩ => ⟨by simpa using h1, h2⟩
  have hsame : ∀ (A B : Option Addr) (N M c d : Nat) (w : World), RB w A N b → RB w B M b → Calls Try.prog 24 #[.slice A N c, .slice B M d] w fun e w' => e = .returned (.bool true) ∧ ∃ q, w' = w.drewN q :=
    fun A B N M c d w ha hb' => (same_any A B N M c d _ _ w ha hb' (by have := ha.1; have := hb.1; unfold maxLen; omega)).mono fun e w' ⟨h1, h2⟩ => ⟨by simpa using h1, h2⟩
  generalize sizeR ts = S at *
  rcases hone with ⟨z1, hz1, hw1⟩ | ⟨R, hw1, hR1, hR2, hR3⟩
  case' inl =>
    have hzb : (z1 == 0) = false := by rw [beq_eq_false_iff_ne]; exact hz1
    clear hz1
  all_goals
    rcases htwo with ⟨hz, hx⟩ | ⟨hz, hw2, hf2⟩
  all_goals
    first
    | (have hzb2 : (((z : Nat) : Int) != 0) = true := by rw [bne_iff_ne]; omega
       clear hz
       subst hx)
    | subst hz
  all_goals
    go_enter Try.func5, Try.ntmps5
    go_wp2_with (first
      | ((go_at_call 15; (with_reducible refine (awake4 _).mono ?_); rintro e w1 ⟨rfl, hb1⟩); have hb1s := hb1.size)
      | (go_at_call 16; (with_reducible refine (hfew _).mono ?_); rintro e w2 ⟨rfl, rfl⟩)
      | (go_at_call 23; (with_reducible refine (hw1 _ (ht.below (B := w.heap.size) (by (repeat' (first | (with_reducible exact Below.refl _ _) | (with_reducible assumption) | (with_reducible refine Below.drew ?_) | (with_reducible refine below_drewN ?_ _) | (with_reducible refine Below.alloc ?_ ?_ _) | (with_reducible refine Below.setCell ?_ ?_ _) | omega | (simp; done) | (simp; omega)))) (Nat.le_refl _)) (hl.below (B := w.heap.size) (by (repeat' (first | (with_reducible exact Below.refl _ _) | (with_reducible assumption) | (with_reducible refine Below.drew ?_) | (with_reducible refine below_drewN ?_ _) | (with_reducible refine Below.alloc ?_ ?_ _) | (with_reducible refine Below.setCell ?_ ?_ _) | omega | (simp; done) | (simp; omega)))) (Nat.le_refl _))).mono ?_); rintro e w2 ⟨rfl, rfl⟩)
      | ((go_at_call 23; (with_reducible refine (hw1 _ (ht.below (B := w.heap.size) (by (repeat' (first | (with_reducible exact Below.refl _ _) | (with_reducible assumption) | (with_reducible refine Below.drew ?_) | (with_reducible refine below_drewN ?_ _) | (with_reducible refine Below.alloc ?_ ?_ _) | (with_reducible refine Below.setCell ?_ ?_ _) | omega | (simp; done) | (simp; omega)))) (Nat.le_refl _)) (hl.below (B := w.heap.size) (by (repeat' (first | (with_reducible exact Below.refl _ _) | (with_reducible assumption) | (with_reducible refine Below.drew ?_) | (with_reducible refine below_drewN ?_ _) | (with_reducible refine Below.alloc ?_ ?_ _) | (with_reducible refine Below.setCell ?_ ?_ _) | omega | (simp; done) | (simp; omega)))) (Nat.le_refl _))).mono ?_); rintro e w3 ⟨A3, N3, c3, rfl, hown3, hb3⟩); obtain rfl : N3 = R.length := hown3.1.symm; have hcap3 := hown3.cap; replace hb3 := below_then' (a := w) (B := w.heap.size) (by (repeat' (first | (with_reducible exact Below.refl _ _) | (with_reducible assumption) | (with_reducible refine Below.drew ?_) | (with_reducible refine below_drewN ?_ _) | (with_reducible refine Below.alloc ?_ ?_ _) | (with_reducible refine Below.setCell ?_ ?_ _) | omega | (simp; done) | (simp; omega)))) hb3 (by first | omega | (simp; done) | (simp; omega)); have hb3s := hb3.size)
      | ((go_at_call 26; (with_reducible refine (hR3 _ _ _ (ht.below (B := w.heap.size) (by (repeat' (first | (with_reducible exact Below.refl _ _) | (with_reducible assumption) | (with_reducible refine Below.drew ?_) | (with_reducible refine below_drewN ?_ _) | (with_reducible refine Below.alloc ?_ ?_ _) | (with_reducible refine Below.setCell ?_ ?_ _) | omega | (simp; done) | (simp; omega)))) (Nat.le_refl _)) hown3.rd.rb hcap3.1 hcap3.2).mono ?_); rintro e w4 ⟨A4, n4, c4, rfl, hown4, hb4⟩); replace hb4 := below_then' (a := w) (B := w.heap.size) (by (repeat' (first | (with_reducible exact Below.refl _ _) | (with_reducible assumption) | (with_reducible refine Below.drew ?_) | (with_reducible refine below_drewN ?_ _) | (with_reducible refine Below.alloc ?_ ?_ _) | (with_reducible refine Below.setCell ?_ ?_ _) | omega | (simp; done) | (simp; omega)))) hb4 (by first | omega | (simp; done) | (simp; omega)); have hb4s := hb4.size)
      | (go_at_call 28; (with_reducible refine (hints _ _ _ _ _ _ _ hown4.rd.ri (hl.below (B := w.heap.size) (by (repeat' (first | (with_reducible exact Below.refl _ _) | (with_reducible assumption) | (with_reducible refine Below.drew ?_) | (with_reducible refine below_drewN ?_ _) | (with_reducible refine Below.alloc ?_ ?_ _) | (with_reducible refine Below.setCell ?_ ?_ _) | omega | (simp; done) | (simp; omega)))) (Nat.le_refl _))).mono ?_); rintro e w6 ⟨rfl, q6, rfl⟩)
      | ((go_at_call 21; (with_reducible refine (hsz _ (ht.below (B := w.heap.size) (by (repeat' (first | (with_reducible exact Below.refl _ _) | (with_reducible assumption) | (with_reducible refine Below.drew ?_) | (with_reducible refine below_drewN ?_ _) | (with_reducible refine Below.alloc ?_ ?_ _) | (with_reducible refine Below.setCell ?_ ?_ _) | omega | (simp; done) | (simp; omega)))) (Nat.le_refl _))).mono ?_); rintro e w5 ⟨rfl, hb5⟩); replace hb5 := below_then' (a := w) (B := w.heap.size) (by (repeat' (first | (with_reducible exact Below.refl _ _) | (with_reducible assumption) | (with_reducible refine Below.drew ?_) | (with_reducible refine below_drewN ?_ _) | (with_reducible refine Below.alloc ?_ ?_ _) | (with_reducible refine Below.setCell ?_ ?_ _) | omega | (simp; done) | (simp; omega)))) hb5 (by first | omega | (simp; done) | (simp; omega)); have hb5s := hb5.size)
      | ((go_at_call 26; (with_reducible refine (h1 _ (ht.below (B := w.heap.size) (by (repeat' (first | (with_reducible exact Below.refl _ _) | (with_reducible assumption) | (with_reducible refine Below.drew ?_) | (with_reducible refine below_drewN ?_ _) | (with_reducible refine Below.alloc ?_ ?_ _) | (with_reducible refine Below.setCell ?_ ?_ _) | omega | (simp; done) | (simp; omega)))) (Nat.le_refl _)) (hb.below (B := w.heap.size) (by (repeat' (first | (with_reducible exact Below.refl _ _) | (with_reducible assumption) | (with_reducible refine Below.drew ?_) | (with_reducible refine below_drewN ?_ _) | (with_reducible refine Below.alloc ?_ ?_ _) | (with_reducible refine Below.setCell ?_ ?_ _) | omega | (simp; done) | (simp; omega)))) (Nat.le_refl _))).mono ?_); rintro e w7 ⟨A7, n7, c7, rfl, hown7, hb7⟩); (first | (have e7 : n7 = 0 := hown7.1.symm; subst e7) | have hn7 : n7 ≤ 8 := (by rw [← hown7.1]; exact hl8)); replace hb7 := below_then' (a := w) (B := w.heap.size) (by (repeat' (first | (with_reducible exact Below.refl _ _) | (with_reducible assumption) | (with_reducible refine Below.drew ?_) | (with_reducible refine below_drewN ?_ _) | (with_reducible refine Below.alloc ?_ ?_ _) | (with_reducible refine Below.setCell ?_ ?_ _) | omega | (simp; done) | (simp; omega)))) hb7 (by first | omega | (simp; done) | (simp; omega)); have hb7s := hb7.size)
      | ((go_at_call 23; (with_reducible refine (hw2 _ _ _ _ (ht.below (B := w.heap.size) (by (repeat' (first | (with_reducible exact Below.refl _ _) | (with_reducible assumption) | (with_reducible refine Below.drew ?_) | (with_reducible refine below_drewN ?_ _) | (with_reducible refine Below.alloc ?_ ?_ _) | (with_reducible refine Below.setCell ?_ ?_ _) | omega | (simp; done) | (simp; omega)))) (Nat.le_refl _)) hown7.rd.ri (by unfold maxLen; omega)).mono ?_); rintro e w8 ⟨A8, n8, c8, rfl, hown8, hb8⟩); have hown78 := hown7.below hb8 (Nat.le_refl _); replace hb8 := below_then' (a := w) (B := w.heap.size) (by (repeat' (first | (with_reducible exact Below.refl _ _) | (with_reducible assumption) | (with_reducible refine Below.drew ?_) | (with_reducible refine below_drewN ?_ _) | (with_reducible refine Below.alloc ?_ ?_ _) | (with_reducible refine Below.setCell ?_ ?_ _) | omega | (simp; done) | (simp; omega)))) hb8 (by first | omega | (simp; done) | (simp; omega)); have hb8s := hb8.size)
      | (go_at_call 19; (with_reducible refine (hf2 _ _ _ _ (ht.below (B := w.heap.size) (by (repeat' (first | (with_reducible exact Below.refl _ _) | (with_reducible assumption) | (with_reducible refine Below.drew ?_) | (with_reducible refine below_drewN ?_ _) | (with_reducible refine Below.alloc ?_ ?_ _) | (with_reducible refine Below.setCell ?_ ?_ _) | omega | (simp; done) | (simp; omega)))) (Nat.le_refl _)) hown78.rd.ri (by unfold maxLen; omega)).mono ?_); rintro e w2 ⟨rfl, rfl⟩)
      | (go_at_call 24; (with_reducible refine (hsame _ _ _ _ _ _ _ hown8.rd.rb (hb.below (B := w.heap.size) (by (repeat' (first | (with_reducible exact Below.refl _ _) | (with_reducible assumption) | (with_reducible refine Below.drew ?_) | (with_reducible refine below_drewN ?_ _) | (with_reducible refine Below.alloc ?_ ?_ _) | (with_reducible refine Below.setCell ?_ ?_ _) | omega | (simp; done) | (simp; omega)))) (Nat.le_refl _))).mono ?_); rintro e w9 ⟨rfl, q9, rfl⟩))
  all_goals
    go_ret
    exact ⟨ret_bool (by first | rfl | (simp; done) | (simp; omega)), (by (repeat' (first | (with_reducible exact Below.refl _ _) | (with_reducible assumption) | (with_reducible refine Below.drew ?_) | (with_reducible refine below_drewN ?_ _) | (with_reducible refine Below.alloc ?_ ?_ _) | (with_reducible refine Below.setCell ?_ ?_ _) | omega | (simp; done) | (simp; omega))))⟩

theorem walk (w : World) (A : Option Addr) (n c : Nat) (ts : List Int) (r : RI w A n ts) (nc : n ≤ c) (cm : c ≤ maxLen) (wf : ∀ z ∈ ts, -9223372036854775808 ≤ z ∧ z ≤ 9223372036854775807)
    (B : Option Addr) (m d : Nat) (l : List Int) (r2 : RI w B m l) (nd : m ≤ d) (dm : d ≤ maxLen) (wf2 : ∀ z ∈ l, -9223372036854775808 ≤ z ∧ z ≤ 9223372036854775807)
    (C : Option Addr) (k f : Nat) (b : List UInt8) (r3 : RB w C k b) (kf : k ≤ f) (fm : f ≤ maxLen) :
    Calls Try.prog 5 #[.slice A n c, .slice B m d, .slice C k f] w fun e w' => e = .returned (.bool true) ∧ Below w.heap.size w w' := by
  by_cases h : n ≤ 20 ∧ m ≤ 20 ∧ k ≤ 200
  · exact walk_small A B C n m k c d f ts l b w h.1 h.2.1 h.2.2 r r2 r3 wf2 kf fm
  · exact walk_big A B C n m k c d f w (by omega) (by omega) (by omega) (by omega)

--FRAME tompionlaw04 RowBack rowBack walk ints ints bytes
theorem own : ownKnob Try.prog.godebug = none := by kernel_rfl
theorem laidOut : laidOutB Try.prog = true := by kernel_rfl

set_option maxRecDepth 100000 in
theorem lifted (os : Os) (started : os.Started) (H : Type) (enc : TypeId × Value → H) :
    ReturnsInHanded {} Try.checked os 5 .any (Rows.rowBackSpec.pre6 enc Try.prog Try.f5 Rows.rowBackRow.domain false) (Rows.rowBackSpec.post enc Try.prog Try.f5 false true false false) := by
  refine returnsInHanded_of_change (C := Try.checked) own started (by kernel_rfl) Try.func5
    (ChangeSpec.witness6 (enc := enc) (C := Try.checked) false ⟨#[], #[.slice none 0 0, .slice none 0 0, .slice none 0 0], []⟩ 8 (by kernel_rfl) (by kernel_rfl) (by kernel_rfl) (by kernel_rfl)) ?_
  intro W base args ds gs before hval0 hW hcnd _
  have hval : ∀ (j : Nat) t v, Try.f5.params[j]? = some t → args[j]? = some v → Value.okWide Try.prog W .any base t v := hval0
  have hW' := hW
  obtain ⟨p, q, hA0, hV, rfl, hfz, hnd⟩ := hW
  have hA : DataW.TrodAll enc Try.prog W 0 (fun _ => true) true Try.f5.params.toList args.toList ds p := hA0
  rw [Try.params5] at hA hval
  obtain ⟨v0, vs0, d0, ds0, p0, q0, hargs, rfl, rfl, h0, rr0⟩ := trodAll_cons hA
  obtain ⟨v1, vs1, d1, ds1, p1, q1, rfl, rfl, rfl, h1, rr1⟩ := trodAll_cons rr0
  obtain ⟨v2, vs2, d2, ds2, p2, q2, rfl, rfl, rfl, h2, rr2⟩ := trodAll_cons rr1
  obtain ⟨rfl, rfl, rfl⟩ := trodAll_nil rr2
  obtain rfl : args = #[v0, v1, v2] := by cases args; simp_all
  obtain ⟨rfl, rfl⟩ := trodVars_none hV
  have k0 := h0
  have lt0 : ∀ x ∈ p0, x.block < W.heap.size := by obtain ⟨m, hm⟩ := k0; exact DataW.trod_lt m _ _ _ hm
  obtain ⟨A0, n0, c0, l0, rfl, r0, nc0, cm0, wf0⟩ := args_ints Try.underlying22 Try.underlying3 (by kernel_rfl) (hval 0 22 v0 rfl rfl) h0
  have k1 := h1
  have lt1 : ∀ x ∈ p1, x.block < W.heap.size := by obtain ⟨m, hm⟩ := k1; exact DataW.trod_lt m _ _ _ hm
  obtain ⟨A1, n1, c1, l1, rfl, r1, nc1, cm1, wf1⟩ := args_ints Try.underlying22 Try.underlying3 (by kernel_rfl) (hval 1 22 v1 rfl rfl) h1
  have k2 := h2
  have lt2 : ∀ x ∈ p2, x.block < W.heap.size := by obtain ⟨m, hm⟩ := k2; exact DataW.trod_lt m _ _ _ hm
  obtain ⟨A2, n2, c2, l2, rfl, r2, nc2, cm2⟩ := args_bytes Try.underlying27 Try.underlying5 (by kernel_rfl) (hval 2 27 v2 rfl rfl) h2
  clear hA0 hval0
  refine (walk W A0 n0 c0 l0 r0 nc0 cm0 wf0 A1 n1 c1 l1 r1 nc1 cm1 wf1 A2 n2 c2 l2 r2 nc2 cm2).mono fun e W' ⟨he, bel⟩ => ?_
  subst he
  exact ⟨_, rfl, _, _, _, [], _, [], hW', trodAll_mk1 (shut_bool Try.underlying4 _), (trodAll_cons_mk (Below.trod laidOut (by kernel_rfl) (of_decide_eq_true (by kernel_rfl)) k0 bel lt0) (trodAll_cons_mk (Below.trod laidOut (by kernel_rfl) (of_decide_eq_true (by kernel_rfl)) k1 bel lt1) (trodAll_cons_mk (Below.trod laidOut (by kernel_rfl) (of_decide_eq_true (by kernel_rfl)) k2 bel lt2) trodAll_mk0))), rfl, bel.frame _, fun h => by cases h⟩

theorem over : Rows.rowBackRow.holds Try.pinned (OpenSpec.ofChange Rows.rowBackSpec) :=
  OpenClaim.holds_of_wide 5 Try.f5 rfl rfl rfl rfl rfl rfl rfl ⟨rfl, rfl, rfl, rfl, rfl⟩ rfl rfl rfl rfl rfl (by kernel_rfl) Try.func5 (by kernel_rfl)
    (of_decide_eq_true (by kernel_rfl)) (by unfold Func.isWrapper; first | (rw [if_pos (by decide +kernel)]; kernel_rfl) | (rw [if_neg (by decide +kernel)]; exact ⟨rfl, rfl⟩))
    (fun os started H enc _ => lifted os started H enc)

theorem proved : Rows.RowBackSaid := over
--ENDFRAME
end Go.Proofs.Ythplicnidknphaa.rowBack
