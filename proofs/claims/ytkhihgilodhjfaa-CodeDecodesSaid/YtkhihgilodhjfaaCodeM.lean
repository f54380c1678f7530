/- Contracts of package code: the reader's types and cells. -/
import Derived.Test.YtkhihgilodhjfaaCodeL
namespace Go.Proofs.Ytkhihgilodhjfaa
open Go.RowKit
set_option linter.unusedVariables false
set_option linter.unusedSimpArgs false

theorem rKinds_len (s : RS) : ∀ n, (rKinds n s).1.length = n := by
  intro n
  induction n with
  | zero => rfl
  | succ n ih => show ((rKinds n s).1 ++ _).length = _; simp [ih]
theorem rShort_le (lo hi : Nat) (s : RS) : (rShort lo hi s).1 ≤ hi := by
  unfold rShort
  split
  · exact Nat.zero_le _
  split
  · exact Nat.zero_le _
  split
  · exact Nat.zero_le _
  · show longV s.1 ≤ hi; omega
theorem Ow.kept {α : Type} {enc : α → Value} {F : Nat → Prop} {w w' : World} {base n c : Nat} {e : TypeId} {A : Option Addr} {l : List α} (h : Ow enc w base e A n c l) (k : Keep F w w') (hF : ∀ b, A.map (·.block) = some b → ¬ F b) : Ow enc w' base e A n c l :=
  ⟨h.1, own_keep h.2 k (fun x hx e => hF x (by cases A with | none => simp [Value.ownBlock] at hx | some a => simpa [Value.ownBlock] using hx) e)⟩
theorem Keep.appd {F : Nat → Prop} {w w3 w5 : World} {o : Obj} {row : Option Nat} (k : Keep F w w3) (hg : (w3.alloc o).grownBy w5 row) (hr : ∀ x, row = some x → w.heap.size ≤ x) : Keep F w w5 :=
  (k.alloc o).trans (G := fun x => row = some x) (Keep.of_grown hg (fun x e => e)) (fun x hx e => by have := hr x e; omega)
theorem RdrAt.appd {w0 w3 w5 : World} {g : Nat} {s : RS} {o : Obj} {row : Option Nat} (h : RdrAt w0 w3 g s) (hg : (w3.alloc o).grownBy w5 row) (hr : ∀ x, row = some x → w0.heap.size ≤ x ∧ x ≠ g) : RdrAt w0 w5 g s :=
  h.keep (F := fun x => row = some x) (((Keep.refl _ _).alloc o).trans (G := fun x => row = some x) (Keep.of_grown hg (fun x e => e)) (fun x hx e => e)) hr
set_option maxRecDepth 100000 in
set_option maxHeartbeats 2000000 in
theorem rtypes_any (w0 : World) (g : Nat) (s : RS) (w : World) (h : RdrAt w0 w g s) :
    Calls Try.prog 42 #[.pointer (some ⟨g, 0, none⟩)] w fun e w' => ∃ B d, e = .returned (.slice B (rShort 1 8 s).1 d) ∧ Ow iv w' w.heap.size 3 B (rShort 1 8 s).1 d (rTypes s).1 ∧ RdrAt w0 w' g (rTypes s).2 ∧ Keep (· = g) w w' := by
  have hH := Lib.hid h
  have hgw := h.2.1
  have hbw := h.1.size
  have hglt : g < w.heap.size := by obtain ⟨_, _, A, n, c, hx, _⟩ := h; exact hx.lt
  have hsh := rshort_any w0 g s 1 8 1 8 rfl rfl w h
  have hle := rShort_le 1 8 s
  unfold rTypes
  generalize rShort 1 8 s = S at *
  obtain ⟨N, S⟩ := S
  simp only at hsh hle ⊢
  clear h
  go_enter Try.func42, Try.ntmps42
  go_wp2_with (first
    | ((go_at_call 43; (with_reducible refine (hsh).mono ?_); rintro e w1 ⟨rfl, hr1, k1, s1⟩); have H1 := Lib.hid hr1; clear hr1 s1)
    | fail "no arm")
  have hz0 : rKinds 0 S = ([], S) := rfl
  go_loopw [3, 7] (fun v i wr => ∃ (k : Nat) (B : Option Addr) (d : Nat), k ≤ N ∧ i = .int .i64 (k : Nat) ∧ v = .slice B k d ∧ Ow iv wr w.heap.size 3 B k d (rKinds k S).1 ∧ RdrAt w0 wr g (rKinds k S).2 ∧ Keep (· = g) w wr) (fun _ i _ => N - (intOf i).toNat)
  case atStart => exact ⟨0, none, 0, by omega, rfl, rfl, Ow.nil _ _ _ _, H1.out, k1⟩
  case round =>
    obtain ⟨k, B, d, hk, rfl, rfl, hown, hrd, hkeep⟩ := hrel
    have hsz := hkeep.size
    by_cases hlt : k < N
    · have hby := rbyte_any w0 g (rKinds k S).2 wr hrd
      have hnx : Hid (rKinds (k + 1) S = ((rKinds k S).1 ++ [((rByte (rKinds k S).2).1 : Int)], needS (rByte (rKinds k S).2).2 (typeB (rByte (rKinds k S).2).1) 11)) := rfl
      have hned := fun ok w h => need_any w0 g (rByte (rKinds k S).2).2 ok 11 11 rfl w h
      have hrdH := Lib.hid hrd
      clear hrd hz0
      generalize rKinds k S = P at *
      generalize rByte P.2 = Y at *
      obtain ⟨t, Y⟩ := Y
      simp only at hby hnx hned
      have hcs : t = 1 ∨ t = 2 ∨ (t ≠ 1 ∧ t ≠ 2) := by omega
      have hB : ∀ b, B.map (·.block) = some b → ¬ (b = g) := fun b e e2 => by have := (hown.lt b e).1; omega
      rcases hcs with rfl | rfl | ⟨t1, t2⟩
      case inr.inr =>
        have f1 : (((t : Nat) : Int) == 1) = false := by rw [beq_eq_false_iff_ne]; omega
        have f2 : (((t : Nat) : Int) == 2) = false := by rw [beq_eq_false_iff_ne]; omega
        have hty : typeB t = false := by unfold typeB; simp [t1, t2]
        rw [hty] at hnx
        have hned' := hned false
        clear hned t1 t2 hty
        go_wp2_with (first
          | ((go_at_call 77; (with_reducible refine (hby).mono ?_); rintro e w2 ⟨rfl, hr2, k2, s2⟩); have H2 := Lib.hid hr2; clear hr2 s2)
          | ((go_at_call 46; (with_reducible refine (hned' _ H2.out).mono ?_); rintro e w3 ⟨rfl, hr3, k3, s3⟩); have H3 := Lib.hid hr3; clear hr3 s3; have k4 : Keep (· = g) wr w3 := k2.trans k3 (fun _ _ e => e); have hown3 := hown.kept k4 hB; have hs4 := k4.size)
          | (at_builtin; refine wpList_app rfl rfl elemInt iv_one (s := .tmp 19) (N := k + 1) (L := P.1 ++ [((t : Nat) : Int)]) rfl (hown3.below (b := w3.heap.size) (by (repeat' (first | (with_reducible exact Below.refl _ _) | (with_reducible assumption) | (with_reducible refine Below.drew ?_) | (with_reducible refine below_drewN ?_ _) | (with_reducible refine Below.alloc ?_ ?_ _) | (with_reducible refine Below.setCell ?_ ?_ _) | omega | (simp; done) | (simp; omega)))) (by first | omega | (simp; done) | (simp; omega))) rfl (k := [((t : Nat) : Int)]) (Rd.of_block (l := [((t : Nat) : Int)]) (heap_top _ _ (by simp)) rfl) rfl (rfl) (by unfold maxLen; omega) (by omega) (by first | omega | (simp; done) | (simp; omega)) ?_; intro A5 c5 w5 hown5 hg5 hat5 hb5)
          | fail "no arm")
        go_roundw
        case rel => exact ⟨k + 1, A5, c5, by omega, by go_num, rfl, by rw [hnx.out]; exact hown5, by rw [hnx.out]; exact H3.out.appd hg5 (fun x e => by have := (hown.lt x e).1; omega), (hkeep.trans k4 (fun _ _ e => e)).appd hg5 (fun x e => (hown.lt x e).1)⟩
        case measure => simp [intOf]; omega
      all_goals
        rw [show typeB _ = true from rfl, needS_true] at hnx
        have hned' := hned true
        rw [needS_true] at hned'
        clear hned
      · go_wp2_with (first
          | ((go_at_call 77; (with_reducible refine (hby).mono ?_); rintro e w2 ⟨rfl, hr2, k2, s2⟩); have H2 := Lib.hid hr2; clear hr2 s2)
          | ((go_at_call 46; (with_reducible refine (hned' _ H2.out).mono ?_); rintro e w3 ⟨rfl, hr3, k3, s3⟩); have H3 := Lib.hid hr3; clear hr3 s3; have k4 : Keep (· = g) wr w3 := k2.trans k3 (fun _ _ e => e); have hown3 := hown.kept k4 hB; have hs4 := k4.size)
          | (at_builtin; refine wpList_app rfl rfl elemInt iv_one (s := .tmp 19) (N := k + 1) (L := P.1 ++ [1]) rfl (hown3.below (b := w3.heap.size) (by (repeat' (first | (with_reducible exact Below.refl _ _) | (with_reducible assumption) | (with_reducible refine Below.drew ?_) | (with_reducible refine below_drewN ?_ _) | (with_reducible refine Below.alloc ?_ ?_ _) | (with_reducible refine Below.setCell ?_ ?_ _) | omega | (simp; done) | (simp; omega)))) (by first | omega | (simp; done) | (simp; omega))) rfl (k := [1]) (Rd.of_block (l := [1]) (heap_top _ _ (by simp)) rfl) rfl (rfl) (by unfold maxLen; omega) (by omega) (by first | omega | (simp; done) | (simp; omega)) ?_; intro A5 c5 w5 hown5 hg5 hat5 hb5)
          | fail "no arm")
        go_roundw
        case rel => exact ⟨k + 1, A5, c5, by omega, by go_num, rfl, by rw [hnx.out]; exact hown5, by rw [hnx.out]; exact H3.out.appd hg5 (fun x e => by have := (hown.lt x e).1; omega), (hkeep.trans k4 (fun _ _ e => e)).appd hg5 (fun x e => (hown.lt x e).1)⟩
        case measure => simp [intOf]; omega
      · go_wp2_with (first
          | ((go_at_call 77; (with_reducible refine (hby).mono ?_); rintro e w2 ⟨rfl, hr2, k2, s2⟩); have H2 := Lib.hid hr2; clear hr2 s2)
          | ((go_at_call 46; (with_reducible refine (hned' _ H2.out).mono ?_); rintro e w3 ⟨rfl, hr3, k3, s3⟩); have H3 := Lib.hid hr3; clear hr3 s3; have k4 : Keep (· = g) wr w3 := k2.trans k3 (fun _ _ e => e); have hown3 := hown.kept k4 hB; have hs4 := k4.size)
          | (at_builtin; refine wpList_app rfl rfl elemInt iv_one (s := .tmp 19) (N := k + 1) (L := P.1 ++ [2]) rfl (hown3.below (b := w3.heap.size) (by (repeat' (first | (with_reducible exact Below.refl _ _) | (with_reducible assumption) | (with_reducible refine Below.drew ?_) | (with_reducible refine below_drewN ?_ _) | (with_reducible refine Below.alloc ?_ ?_ _) | (with_reducible refine Below.setCell ?_ ?_ _) | omega | (simp; done) | (simp; omega)))) (by first | omega | (simp; done) | (simp; omega))) rfl (k := [2]) (Rd.of_block (l := [2]) (heap_top _ _ (by simp)) rfl) rfl (rfl) (by unfold maxLen; omega) (by omega) (by first | omega | (simp; done) | (simp; omega)) ?_; intro A5 c5 w5 hown5 hg5 hat5 hb5)
          | fail "no arm")
        go_roundw
        case rel => exact ⟨k + 1, A5, c5, by omega, by go_num, rfl, by rw [hnx.out]; exact hown5, by rw [hnx.out]; exact H3.out.appd hg5 (fun x e => by have := (hown.lt x e).1; omega), (hkeep.trans k4 (fun _ _ e => e)).appd hg5 (fun x e => (hown.lt x e).1)⟩
        case measure => simp [intOf]; omega
    · have hk9 : k = N := by omega
      subst hk9
      have hF := Lib.hid hrd
      clear hrd
      go_wp2
      go_ret
      exact ⟨B, d, rfl, hown, hF.out, hkeep⟩

theorem RdrAt.alloc {w0 w : World} {g : Nat} {s : RS} (h : RdrAt w0 w g s) (o : Obj) : RdrAt w0 (w.alloc o) g s := h.keep ((Keep.refl (fun _ => False) _).alloc o) (fun _ e => e.elim)
theorem Keep.setFresh {F : Nat → Prop} {w w' : World} (k : Keep F w w') {b : Nat} (hb : w.heap.size ≤ b) (i : Nat) (u : Value) : Keep F w (w'.setCell ⟨b, i, none⟩ u) :=
  k.trans (G := (· = b)) (Keep.one (grown_setCell u)) (fun x hx e => by omega)
theorem RdrAt.setFar {w0 w : World} {g b : Nat} {s : RS} (h : RdrAt w0 w g s) (h1 : w0.heap.size ≤ b) (h2 : b ≠ g) (i : Nat) (u : Value) : RdrAt w0 (w.setCell ⟨b, i, none⟩ u) g s := h.keep (F := (· = b)) (Keep.one (grown_setCell u)) (fun x e => by omega)
theorem blk2 {w : World} {g : Nat} {t : TypeId} {v0 v1 : Value} (h : Blk w g t [v0, v1]) : w.cell? ⟨g, 0, none⟩ = some v0 ∧ w.cell? ⟨g, 1, none⟩ = some v1 := ⟨h.cell 0, h.cell 1⟩
set_option maxRecDepth 100000 in
set_option maxHeartbeats 2000000 in
theorem rcell_any (w0 : World) (g : Nat) (s : RS) (w : World) (h : RdrAt w0 w g s) :
    Calls Try.prog 44 #[.pointer (some ⟨g, 0, none⟩)] w fun e w' => e = .returned (.agg #[.int .i64 (rCell s).1.1, .int .i64 (rCell s).1.2]) ∧ RdrAt w0 w' g (rCell s).2 ∧ Keep (· = g) w w' := by
  have hH := Lib.hid h
  have hglt : g < w.heap.size := by obtain ⟨_, _, A, n, c, hx, _⟩ := h; exact hx.lt
  have hww := h.1.size
  have hby := fun w h => rbyte_any w0 g s w h
  have hned := fun ok w h => need_any w0 g (rByte s).2 ok 11 11 rfl w h
  have hzig := fun w h => rzig_any w0 g (rKind s).2 w h
  unfold rCell
  have hkd : rKind s = ((rByte s).1, needS (rByte s).2 (typeB (rByte s).1) 11) := rfl
  clear h
  generalize rKind s = K at *
  obtain ⟨kt, K⟩ := K
  generalize rByte s = Y at *
  obtain ⟨t, Y⟩ := Y
  simp only [Prod.mk.injEq] at hby hned hzig hkd ⊢
  obtain ⟨rfl, rfl⟩ := hkd
  generalize rZig (needS Y (typeB kt) 11) = Z at *
  obtain ⟨z, Z⟩ := Z
  simp only at hzig ⊢
  have hval := fun w => value_any kt z w
  have hned2 := fun w h => need_any w0 g Z (valueB kt z) 11 11 rfl w h
  have hcs : kt = 1 ∨ kt = 2 ∨ (kt ≠ 1 ∧ kt ≠ 2) := by omega
  have hfin : ∀ (ok : Bool), typeB kt = ok → (((kt : Nat) : Int) == 1) = (decide (kt = 1)) → True := fun _ _ _ => trivial
  clear hfin
  rcases hcs with rfl | rfl | ⟨t1, t2⟩
  case inr.inr =>
    have f1 : (((kt : Nat) : Int) == 1) = false := by rw [beq_eq_false_iff_ne]; omega
    have f2 : (((kt : Nat) : Int) == 2) = false := by rw [beq_eq_false_iff_ne]; omega
    have hty : typeB kt = false := by unfold typeB; simp [t1, t2]
    rw [hty] at hzig
    have hned' := hned false
    clear hned t1 t2 hty
    generalize needS Y false 11 = Y2 at *
    generalize valueB kt z = vb at *
    generalize needS Z vb 11 = Z2 at *
    go_enter Try.func44, Try.ntmps44
    go_wp2_with (first
      | ((go_at_call 77; (with_reducible refine (hby _ (hH.out.alloc _)).mono ?_); rintro e w2 ⟨rfl, hr2, k2, s2⟩); have hz2 := Blk.keep (F := (· = g)) (w' := w2) (g := w.heap.size) (t := 83) (cs := [.int .i64 0, .int .i64 0]) (by (repeat' (first | (with_reducible assumption) | (with_reducible refine Blk.top _ (by first | rfl | omega | (simp; done) | (simp; omega)) rfl) | (with_reducible refine Blk.alloc ?_ _) | (with_reducible refine Blk.drew ?_) | (with_reducible refine Blk.drewN ?_ _) | (with_reducible refine Blk.far ?_ (by first | omega | (simp; done) | (simp; omega)) _)))) k2 (by omega); have H2 := Lib.hid hr2; clear hr2 s2)
      | ((go_at_call 46; (with_reducible refine (hned' _ H2.out).mono ?_); rintro e w3 ⟨rfl, hr3, k3, s3⟩); have hz3 := hz2.keep k3 (by omega); have H3 := Lib.hid hr3; clear hr3 s3)
      | ((go_at_call 79; (with_reducible refine (hzig _ H3.out).mono ?_); rintro e w4 ⟨rfl, hr4, k4, s4⟩); have hz4 := hz3.keep k4 (by omega); have H4 := Lib.hid hr4; clear hr4 s4)
      | (go_at_call 60; (with_reducible refine (hval _).mono ?_); rintro e w5 ⟨rfl, rfl⟩)
      | ((go_at_call 46; (with_reducible refine (hned2 _ H4.out).mono ?_); rintro e w6 ⟨rfl, hr6, k6, s6⟩); have hz6 := hz4.keep k6 (by omega); have H6 := Lib.hid hr6; clear hr6 s6; obtain ⟨z0, z1⟩ := blk2 hz6; have fz := hz6.frozen; have hzl := hz6.lt)
      | fail "no arm")
    refine bodyPost_ret (v := .agg #[.int .i64 (kt : Int), .int .i64 z]) (by simp [results, Try.results44, go_sem , z0, z1]) rfl ?_
    have K6 : Keep (· = g) w w6 := (((((Keep.refl _ _).alloc _).trans k2 (fun _ _ e => e)).trans k3 (fun _ _ e => e)).trans k4 (fun _ _ e => e)).trans k6 (fun _ _ e => e)
    exact ⟨rfl, (H6.out.setFar (by omega) (by omega) _ _).setFar (by omega) (by omega) _ _, (K6.setFresh (Nat.le_refl _) _ _).setFresh (Nat.le_refl _) _ _⟩
  all_goals
    rw [show typeB _ = true from rfl, needS_true] at hzig
    have hned' := hned true
    rw [needS_true] at hned'
    clear hned
  · have hval' : ∀ w, Calls Try.prog 60 #[.int .i64 1, .int .i64 z] w fun e w' => e = .returned (.bool (valueB ((1 : Nat) : Int) z)) ∧ w = w' := hval
    have hby' : ∀ w, RdrAt w0 w g s → Calls Try.prog 77 #[.pointer (some ⟨g, 0, none⟩)] w fun e w' => e = .returned (.int .i64 1) ∧ RdrAt w0 w' g Y ∧ Keep (· = g) w w' ∧ w'.heap.size = w.heap.size := hby
    clear hval hby
    generalize valueB ((1 : Nat) : Int) z = vb at *
    generalize needS Z vb 11 = Z2 at *
    go_enter Try.func44, Try.ntmps44
    go_wp2_with (first
      | ((go_at_call 77; (with_reducible refine (hby' _ (hH.out.alloc _)).mono ?_); rintro e w2 ⟨rfl, hr2, k2, s2⟩); have hz2 := Blk.keep (F := (· = g)) (w' := w2) (g := w.heap.size) (t := 83) (cs := [.int .i64 0, .int .i64 0]) (by (repeat' (first | (with_reducible assumption) | (with_reducible refine Blk.top _ (by first | rfl | omega | (simp; done) | (simp; omega)) rfl) | (with_reducible refine Blk.alloc ?_ _) | (with_reducible refine Blk.drew ?_) | (with_reducible refine Blk.drewN ?_ _) | (with_reducible refine Blk.far ?_ (by first | omega | (simp; done) | (simp; omega)) _)))) k2 (by omega); have H2 := Lib.hid hr2; clear hr2 s2)
      | ((go_at_call 46; (with_reducible refine (hned' _ H2.out).mono ?_); rintro e w3 ⟨rfl, hr3, k3, s3⟩); have hz3 := hz2.keep k3 (by omega); have H3 := Lib.hid hr3; clear hr3 s3)
      | ((go_at_call 79; (with_reducible refine (hzig _ H3.out).mono ?_); rintro e w4 ⟨rfl, hr4, k4, s4⟩); have hz4 := hz3.keep k4 (by omega); have H4 := Lib.hid hr4; clear hr4 s4)
      | (go_at_call 60; (with_reducible refine (hval' _).mono ?_); rintro e w5 ⟨rfl, rfl⟩)
      | ((go_at_call 46; (with_reducible refine (hned2 _ H4.out).mono ?_); rintro e w6 ⟨rfl, hr6, k6, s6⟩); have hz6 := hz4.keep k6 (by omega); have H6 := Lib.hid hr6; clear hr6 s6; obtain ⟨z0, z1⟩ := blk2 hz6; have fz := hz6.frozen; have hzl := hz6.lt)
      | fail "no arm")
    refine bodyPost_ret (v := .agg #[.int .i64 1, .int .i64 z]) (by simp [results, Try.results44, go_sem , z0, z1]) rfl ?_
    have K6 : Keep (· = g) w w6 := (((((Keep.refl _ _).alloc _).trans k2 (fun _ _ e => e)).trans k3 (fun _ _ e => e)).trans k4 (fun _ _ e => e)).trans k6 (fun _ _ e => e)
    exact ⟨rfl, (H6.out.setFar (by omega) (by omega) _ _).setFar (by omega) (by omega) _ _, (K6.setFresh (Nat.le_refl _) _ _).setFresh (Nat.le_refl _) _ _⟩
  · have hval' : ∀ w, Calls Try.prog 60 #[.int .i64 2, .int .i64 z] w fun e w' => e = .returned (.bool (valueB ((2 : Nat) : Int) z)) ∧ w = w' := hval
    have hby' : ∀ w, RdrAt w0 w g s → Calls Try.prog 77 #[.pointer (some ⟨g, 0, none⟩)] w fun e w' => e = .returned (.int .i64 2) ∧ RdrAt w0 w' g Y ∧ Keep (· = g) w w' ∧ w'.heap.size = w.heap.size := hby
    clear hval hby
    generalize valueB ((2 : Nat) : Int) z = vb at *
    generalize needS Z vb 11 = Z2 at *
    go_enter Try.func44, Try.ntmps44
    go_wp2_with (first
      | ((go_at_call 77; (with_reducible refine (hby' _ (hH.out.alloc _)).mono ?_); rintro e w2 ⟨rfl, hr2, k2, s2⟩); have hz2 := Blk.keep (F := (· = g)) (w' := w2) (g := w.heap.size) (t := 83) (cs := [.int .i64 0, .int .i64 0]) (by (repeat' (first | (with_reducible assumption) | (with_reducible refine Blk.top _ (by first | rfl | omega | (simp; done) | (simp; omega)) rfl) | (with_reducible refine Blk.alloc ?_ _) | (with_reducible refine Blk.drew ?_) | (with_reducible refine Blk.drewN ?_ _) | (with_reducible refine Blk.far ?_ (by first | omega | (simp; done) | (simp; omega)) _)))) k2 (by omega); have H2 := Lib.hid hr2; clear hr2 s2)
      | ((go_at_call 46; (with_reducible refine (hned' _ H2.out).mono ?_); rintro e w3 ⟨rfl, hr3, k3, s3⟩); have hz3 := hz2.keep k3 (by omega); have H3 := Lib.hid hr3; clear hr3 s3)
      | ((go_at_call 79; (with_reducible refine (hzig _ H3.out).mono ?_); rintro e w4 ⟨rfl, hr4, k4, s4⟩); have hz4 := hz3.keep k4 (by omega); have H4 := Lib.hid hr4; clear hr4 s4)
      | (go_at_call 60; (with_reducible refine (hval' _).mono ?_); rintro e w5 ⟨rfl, rfl⟩)
      | ((go_at_call 46; (with_reducible refine (hned2 _ H4.out).mono ?_); rintro e w6 ⟨rfl, hr6, k6, s6⟩); have hz6 := hz4.keep k6 (by omega); have H6 := Lib.hid hr6; clear hr6 s6; obtain ⟨z0, z1⟩ := blk2 hz6; have fz := hz6.frozen; have hzl := hz6.lt)
      | fail "no arm")
    refine bodyPost_ret (v := .agg #[.int .i64 2, .int .i64 z]) (by simp [results, Try.results44, go_sem , z0, z1]) rfl ?_
    have K6 : Keep (· = g) w w6 := (((((Keep.refl _ _).alloc _).trans k2 (fun _ _ e => e)).trans k3 (fun _ _ e => e)).trans k4 (fun _ _ e => e)).trans k6 (fun _ _ e => e)
    exact ⟨rfl, (H6.out.setFar (by omega) (by omega) _ _).setFar (by omega) (by omega) _ _, (K6.setFresh (Nat.le_refl _) _ _).setFresh (Nat.le_refl _) _ _⟩
end Go.Proofs.Ytkhihgilodhjfaa
