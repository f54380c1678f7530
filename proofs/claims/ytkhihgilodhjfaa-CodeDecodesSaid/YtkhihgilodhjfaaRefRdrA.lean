/- Contracts of the reference of code: the reader. Contracts of the reference of code: the reader's numbers and types. The reference's Decode: its state. -/
import Derived.Test.YtkhihgilodhjfaaCodeM
import Derived.Test.YtkhihgilodhjfaaPlainRdrB
import Derived.Test.YtkhihgilodhjfaaRefNumD
import Derived.Test.YtkhihgilodhjfaaRegion
import Derived.Deep.RegionHeld3
import Derived.Test.YtkhihgilodhjfaaCodeO
namespace Go.Proofs.Ytkhihgilodhjfaa
open Go.RowKit
set_option linter.unusedVariables false
set_option linter.unusedSimpArgs false

/-- The reference's reader in memory: all bytes, how many were read, what went wrong first. -/
def RRdrAt (w0 w : World) (g : Nat) (s : RS) : Prop := Below w0.heap.size w0 w ∧ w0.heap.size ≤ g ∧ ∃ A n c i bs, Blk w g 96 [.slice A n c, .int .i64 ((i : Nat) : Int), .int .i64 (s.2 : Int)] ∧ RB w0 A n bs ∧ i ≤ n ∧ bs.drop i = s.1 ∧ n ≤ c ∧ c ≤ maxLen
theorem RRdrAt.drewN {w0 w : World} {g : Nat} {s : RS} (h : RRdrAt w0 w g s) (k : Nat) : RRdrAt w0 (w.drewN k) g s := ⟨below_drewN h.1 k, h.2.1, h.2.2⟩
def badS (s : RS) (z : Nat) : RS := if s.2 = 0 then (s.1, z) else s
theorem badS_need (s : RS) (z : Nat) : badS s z = needS s false z := by unfold badS needS; simp
theorem refbad_any (w0 : World) (g : Nat) (s : RS) (z : Nat) (zi : Int) (hz : zi = (z : Int)) (w : World) (h : RRdrAt w0 w g s) :
    Calls Try.prog 52 #[.pointer (some ⟨g, 0, none⟩), .int .i64 zi] w fun e w' => e = .returned (.tuple #[]) ∧ RRdrAt w0 w' g (badS s z) ∧ Keep (· = g) w w' ∧ w'.heap.size = w.heap.size := by
  subst hz
  have h0 := h
  obtain ⟨hb, hg, A, n, c, i, bs, hx, hr, hi, hd, h1, h2⟩ := h
  have c1 : w.cell? ⟨g, 2, none⟩ = some (.int .i64 (s.2 : Int)) := hx.cell 2
  have f1 := hx.frozen 2
  unfold badS
  by_cases h9 : s.2 = 0
  · rw [if_pos h9]
    rw [h9] at c1
    have K : Keep (· = g) w (w.setCell ⟨g, 2, none⟩ (.int .i64 (z : Int))) := Keep.one (grown_setCell _)
    have hfin : RRdrAt w0 (w.setCell ⟨g, 2, none⟩ (.int .i64 (z : Int))) g (s.1, z) := ⟨hb.trans (K.below (fun x e => by omega) hb.size), hg, A, n, c, i, bs, hx.set_ 2 _, hr, hi, hd, h1, h2⟩
    have HK := Lib.hid K
    have HF := Lib.hid hfin
    clear hfin K h0 hx
    go_enter Try.func52, Try.ntmps52
    go_wp2
    go_end0
    exact ⟨rfl, HF.out, HK.out, by simp [World.setCell]⟩
  · rw [if_neg h9]
    have hne : (((s.2 : Nat) : Int) == 0) = false := by rw [beq_eq_false_iff_ne]; omega
    go_enter Try.func52, Try.ntmps52
    go_wp2
    go_end0
    exact ⟨rfl, h0, Keep.refl _ _, rfl⟩

theorem drewN_set (w : World) (n : Nat) (p : Addr) (u : Value) : (w.drewN n).setCell p u = (w.setCell p u).drewN n := rfl
theorem Keep.of_drewN {F : Nat → Prop} {w w' : World} {n : Nat} (k : Keep F (w.drewN n) w') : Keep F w w' := ⟨k.os, k.tape, k.output, k.size, k.block⟩
set_option maxRecDepth 100000 in
set_option maxHeartbeats 2000000 in
theorem refone_any (w0 : World) (g : Nat) (s : RS) (w : World) (h : RRdrAt w0 w g s) :
    Calls Try.prog 53 #[.pointer (some ⟨g, 0, none⟩)] w fun e w' => e = .returned (.int .i64 ((rByte s).1 : Nat)) ∧ RRdrAt w0 w' g (rByte s).2 ∧ Keep (· = g) w w' ∧ w'.heap.size = w.heap.size := by
  have h0 := h
  have hbad := fun w h => refbad_any w0 g s 10 10 rfl w h
  obtain ⟨hb, hg, A, n, c, i, bs, hx, hr, hi, hd, h1, h2⟩ := h
  obtain ⟨rest, er⟩ := s
  simp only at hd
  have c0 : w.cell? ⟨g, 0, none⟩ = some (.slice A n c) := hx.cell 0
  have c1 : w.cell? ⟨g, 1, none⟩ = some (.int .i64 (i : Int)) := hx.cell 1
  have c2 : w.cell? ⟨g, 2, none⟩ = some (.int .i64 (er : Int)) := hx.cell 2
  have hlen := hr.1
  unfold maxLen at h2
  unfold rByte
  simp only
  by_cases he : er = 0
  · subst he
    rw [if_neg (by simp)]
    by_cases hin : i = n
    · have hnil : rest = [] := by rw [← hd, List.drop_of_length_le (by omega)]
      rw [if_pos hnil]
      subst hin
      have hH := Lib.hid (show RRdrAt w0 w g (rest, 0) from h0)
      clear h0 hx
      have t1 : (((i : Nat) : Int) == (i : Int)) = true := by simp
      have hbad' : ∀ w, RRdrAt w0 w g (rest, 0) → Calls Try.prog 52 #[.pointer (some ⟨g, 0, none⟩), .int .i64 10] w fun e w' => e = .returned (.tuple #[]) ∧ RRdrAt w0 w' g (rest, 10) ∧ Keep (· = g) w w' ∧ w'.heap.size = w.heap.size := hbad
      clear hbad
      go_enter Try.func53, Try.ntmps53
      go_wp2
      go_big_quiet (fail)
      go_wp2_with (first
        | ((go_at_call 52; (with_reducible refine (hbad' _ (hH.out.drewN _)).mono ?_); rintro e w1 ⟨rfl, hr1, k1, s1⟩); obtain ⟨b1, g1, A1, n1, c1', i1, bs1, x1, r1, l1, d1, m1, m2⟩ := id hr1; have e1 : w1.cell? ⟨g, 2, none⟩ = some (.int .i64 (10 : Int)) := x1.cell 2; have H1 := Lib.hid hr1; have S1 := Lib.hid s1; clear hr1 s1 x1)
        | fail "no arm")
      go_ret
      exact ⟨rfl, H1.out, Keep.of_drewN k1, S1.out⟩
    · have hlt : i < n := by omega
      have hne : rest ≠ [] := by
        intro h9
        have := congrArg List.length hd
        rw [h9, List.length_drop, hlen] at this
        simp at this; omega
      rw [if_neg hne]
      obtain ⟨b, o, rfl, hbb, hcc⟩ := hr.at_ hlt
      have hcw := (hb.cell (p := ⟨b, o + i, none⟩) hbb).trans hcc
      have hbg : b ≠ g := by omega
      have hby : byteAt rest 0 = byteAt bs i := by rw [← hd]; unfold byteAt; simp [List.getD_eq_getElem?_getD]
      have hdn : bs.drop (i + 1) = rest.drop 1 := by rw [← hd, List.drop_drop]
      have K : Keep (· = g) w (w.setCell ⟨g, 1, none⟩ (.int .i64 ((i : Int) + 1))) := Keep.one (grown_setCell _)
      have hfin : RRdrAt w0 (w.setCell ⟨g, 1, none⟩ (.int .i64 ((i : Int) + 1))) g (rest.drop 1, 0) := ⟨hb.trans (K.below (fun x e => by omega) hb.size), hg, _, n, c, i + 1, bs, hx.set_ 1 _, hr, by omega, hdn, h1, by unfold maxLen; exact h2⟩
      have HK := Lib.hid K
      have HF := Lib.hid hfin
      have f1 := hx.frozen 1
      have hyl := byteAt_lt bs i
      have t1 : (((i : Nat) : Int) == (n : Int)) = false := by rw [beq_eq_false_iff_ne]; omega
      rw [hby]
      generalize byteAt bs i = y at *
      clear hfin K h0 hx hbad hr hby hd hdn hne
      go_enter Try.func53, Try.ntmps53
      go_wp2
      go_big_quiet (fail)
      go_wp2
      go_big_quiet (fail)
      go_wp2
      go_ret
      refine ⟨ret_int (by first | rfl | omega), ?_, ?_, ?_⟩
      · rw [drewN_set]; exact (HF.out.drewN _).drewN _
      · rw [drewN_set]; exact (HK.out.drewN _).drewN _
      · simp [World.setCell]
  · rw [if_pos he]
    have f9 : (((er : Nat) : Int) == 0) = false := by rw [beq_eq_false_iff_ne]; omega
    have f8 : (((er : Nat) : Int) != 0) = true := by rw [bne_iff_ne]; omega
    have hH := Lib.hid h0
    clear h0 hx hbad
    go_enter Try.func53, Try.ntmps53
    go_wp2
    go_big_quiet (fail)
    go_wp2
    go_ret
    exact ⟨rfl, hH.out.drewN _, (Keep.refl _ _).drewN _, rfl⟩

set_option maxRecDepth 100000 in
set_option maxHeartbeats 2000000 in
theorem refkind_any (w0 : World) (g : Nat) (s : RS) (w : World) (h : RRdrAt w0 w g s) :
    Calls Try.prog 49 #[.pointer (some ⟨g, 0, none⟩)] w fun e w' => e = .returned (.int .i64 ((rKind s).1 : Nat)) ∧ RRdrAt w0 w' g (rKind s).2 ∧ Keep (· = g) w w' ∧ w'.heap.size = w.heap.size := by
  have hone := refone_any w0 g s w h
  have hbad := fun w h => refbad_any w0 g (rByte s).2 11 11 rfl w h
  rw [badS_need] at hbad
  unfold rKind
  generalize rByte s = Y at *
  obtain ⟨t, Y⟩ := Y
  simp only at hone hbad ⊢
  have hcs : t = 1 ∨ t = 2 ∨ (t ≠ 1 ∧ t ≠ 2) := by omega
  rcases hcs with rfl | rfl | ⟨t1, t2⟩
  case inr.inr =>
    have f1 : (((t : Nat) : Int) != 1) = true := by rw [bne_iff_ne]; omega
    have f2 : (((t : Nat) : Int) != 2) = true := by rw [bne_iff_ne]; omega
    have hty : typeB t = false := by unfold typeB; simp [t1, t2]
    rw [hty]
    clear t1 t2 hty
    go_enter Try.func49, Try.ntmps49
    go_wp2_with (first
      | ((go_at_call 53; (with_reducible refine (hone).mono ?_); rintro e w1 ⟨rfl, hr1, k1, s1⟩); have H1 := Lib.hid hr1; have S1 := Lib.hid s1; clear hr1 s1)
      | ((go_at_call 52; (with_reducible refine (hbad _ H1.out).mono ?_); rintro e w2 ⟨rfl, hr2, k2, s2⟩); have H2 := Lib.hid hr2; have S2 := Lib.hid s2; clear hr2 s2)
      | fail "no arm")
    go_ret
    exact ⟨rfl, H2.out, k1.trans k2 (fun _ _ e => e), S2.out.trans S1.out⟩
  all_goals
    rw [show typeB _ = true from rfl, needS_true]
    go_enter Try.func49, Try.ntmps49
    go_wp2_with (first
      | ((go_at_call 53; (with_reducible refine (hone).mono ?_); rintro e w1 ⟨rfl, hr1, k1, s1⟩); have H1 := Lib.hid hr1; have S1 := Lib.hid s1; clear hr1 s1)
      | fail "no arm")
    go_ret
    exact ⟨rfl, H1.out, k1, S1.out⟩

theorem reflong_any (A : Option Addr) (n c : Nat) (l : List UInt8) (w : World) (hl : RB w A n l) (hn : n ≤ maxLen) :
    Calls Try.prog 80 #[.slice A n c] w fun e w' => e = .returned (.tuple #[.int .i64 (longV l : Nat), .int .i64 ((endsL 9 0 l).1 : Nat), .int .i64 ((endsL 9 0 l).2 : Nat)]) ∧ w = w' := by
  by_cases h : (endsL 9 0 l).2 = 0
  · have hz : endsL 9 0 l = ((endsL 9 0 l).1, 0) := Prod.ext rfl h
    have := reflong_ok A n c _ l w hl hn hz
    refine this.mono fun e w' ⟨h1, h2⟩ => ⟨?_, h2⟩
    rw [h1, h]
    rfl
  · have := reflong_err A n c l w hl hn h
    refine this.mono fun e w' ⟨h1, h2⟩ => ⟨?_, h2⟩
    rw [h1, (endsL_err 9 l 0 h).1, show longV l = 0 from by unfold longV readV; rw [if_neg h]]
    rfl
end Go.Proofs.Ytkhihgilodhjfaa
namespace Go.Proofs.Ytkhihgilodhjfaa
open Go.RowKit
set_option linter.unusedVariables false
set_option linter.unusedSimpArgs false

theorem RRdrAt.drew {w0 w : World} {g : Nat} {s : RS} (h : RRdrAt w0 w g s) : RRdrAt w0 w.drew g s := ⟨Below.drew h.1, h.2.1, h.2.2⟩
theorem RRdrAt.keep {F : Nat → Prop} {w0 w w' : World} {g : Nat} {s : RS} (h : RRdrAt w0 w g s) (k : Keep F w w') (hF : ∀ x, F x → w0.heap.size ≤ x ∧ x ≠ g) : RRdrAt w0 w' g s := by
  obtain ⟨hb, hg, A, n, c, i, bs, hx, hr, h1, h2, h3, h4⟩ := h
  exact ⟨hb.trans (k.below (fun x e => (hF x e).1) hb.size), hg, A, n, c, i, bs, hx.keep k (fun e => (hF g e).2 rfl), hr, h1, h2, h3, h4⟩
theorem RRdrAt.ty {w0 w : World} {g : Nat} {s : RS} (h : RRdrAt w0 w g s) {t : TypeId} {cs : List Value} (hb : Blk w g t cs) : t = 96 := by
  obtain ⟨_, _, A, n, c, i, bs, hx, _⟩ := h
  unfold Blk at hx hb
  rw [hx] at hb
  injection hb with hb
  injection hb with _ ht
  exact ht.symm
theorem RRdrAt.appd {w0 w3 w5 : World} {g : Nat} {s : RS} {o : Obj} {row : Option Nat} (h : RRdrAt w0 w3 g s) (hg : (w3.alloc o).grownBy w5 row) (hr : ∀ x, row = some x → w0.heap.size ≤ x ∧ x ≠ g) : RRdrAt w0 w5 g s :=
  h.keep (F := fun x => row = some x) (((Keep.refl _ _).alloc o).trans (G := fun x => row = some x) (Keep.of_grown hg (fun x e => e)) (fun x hx e => e)) hr
theorem RRdrAt.alloc {w0 w : World} {g : Nat} {s : RS} (h : RRdrAt w0 w g s) (o : Obj) : RRdrAt w0 (w.alloc o) g s := h.keep ((Keep.refl (fun _ => False) _).alloc o) (fun _ e => e.elim)
theorem RRdrAt.setFar {w0 w : World} {g b : Nat} {s : RS} (h : RRdrAt w0 w g s) (h1 : w0.heap.size ≤ b) (h2 : b ≠ g) (i : Nat) (u : Value) : RRdrAt w0 (w.setCell ⟨b, i, none⟩ u) g s := h.keep (F := (· = b)) (Keep.one (grown_setCell u)) (fun x e => by omega)
/-- So many bytes more were read. -/
theorem RRdrAt.skip {w0 w : World} {g n c i k : Nat} {A : Option Addr} {bs : List UInt8} {z : Int} (hb : Below w0.heap.size w0 w) (hg : w0.heap.size ≤ g) (hx : Blk w g 96 [.slice A n c, .int .i64 ((i : Nat) : Int), .int .i64 z]) (hz : z = 0) (hr : RB w0 A n bs) (hik : i + k ≤ n) (h1 : n ≤ c) (h2 : c ≤ maxLen) :
    RRdrAt w0 (w.setCell ⟨g, 1, none⟩ (.int .i64 ((i : Int) + (k : Int)))) g ((bs.drop i).drop k, 0) :=
  ⟨hb.trans ((Keep.one (grown_setCell _)).below (F := (· = g)) (fun x e => by omega) hb.size), hg, A, n, c, i + k, bs, by have := hx.set_ 1 (.int .i64 ((i : Int) + (k : Int))); rw [hz] at this; exact this, hr, hik, by rw [List.drop_drop], h1, h2⟩

set_option maxRecDepth 100000 in
set_option maxHeartbeats 2000000 in
theorem refrshort_any (w0 : World) (g : Nat) (s : RS) (lo hi : Nat) (loi hii : Int) (hlo : loi = (lo : Int)) (hhi : hii = (hi : Int)) (w : World) (h : RRdrAt w0 w g s) :
    Calls Try.prog 48 #[.pointer (some ⟨g, 0, none⟩), .int .i64 loi, .int .i64 hii] w fun e w' => e = .returned (.int .i64 ((rShort lo hi s).1 : Nat)) ∧ RRdrAt w0 w' g (rShort lo hi s).2 ∧ Keep (· = g) w w' ∧ w'.heap.size = w.heap.size := by
  have h0 := h
  have hbad := fun (z : Nat) (zi : Int) (hz : zi = (z : Int)) w h => refbad_any w0 g s z zi hz w h
  obtain ⟨hb, hg, A, n, c, i, bs, hx, hr, hi', hd, h1, h2⟩ := h
  obtain ⟨rest, er⟩ := s
  simp only at hd
  have c0 : w.cell? ⟨g, 0, none⟩ = some (.slice A n c) := hx.cell 0
  have c1 : w.cell? ⟨g, 1, none⟩ = some (.int .i64 (i : Int)) := hx.cell 1
  have c2 : w.cell? ⟨g, 2, none⟩ = some (.int .i64 (er : Int)) := hx.cell 2
  have hlen := hr.1
  unfold rShort
  simp only
  by_cases he : er = 0
  · subst he
    rw [if_neg (by simp)]
    have hcut := run_cut_from (P := Try.prog) elemU8 A n c i hi'
    have hrw : RB w (if c = i then A else A.map (·.add (i * 1))) (n - i) rest := by rw [← hd]; exact cut_rb (hr.below hb (Nat.le_refl _)) hi' h1
    generalize hAA : (if c = i then A else A.map (·.add (i * 1))) = AA at *
    have hlong := fun w h => reflong_any AA (n - i) (c - i) rest w h (by omega)
    have hle : (endsL 9 0 rest).2 = 0 → i + (endsL 9 0 rest).1 ≤ n := fun h => by have := (endsL_le 9 rest 0 h).2.2; have := hrw.1; omega
    have hfin := fun hk => RRdrAt.skip (k := (endsL 9 0 rest).1) hb hg hx rfl hr hk h1 h2
    rw [hd] at hfin
    have hH := Lib.hid (show RRdrAt w0 w g (rest, 0) from h0)
    have f1 := hx.frozen 1
    have hgl := hx.lt
    have hcm : n ≤ 9223372036854775807 := by unfold maxLen at h2; omega
    have hrd : ∀ nq, RB (w.drewN nq) AA (n - i) rest := fun nq => hrw
    clear h0 hx hr hd hAA hrw
    by_cases hl : (endsL 9 0 rest).2 = 0
    · rw [if_neg (by simp [hl])]
      have hF := Lib.hid (hfin (hle hl))
      have hik := hle hl
      rw [hl] at hlong
      clear hle hl hfin
      by_cases hrange : longV rest < lo ∨ hi < longV rest
      · rw [if_pos hrange]
        have hcs : (((longV rest : Nat) : Int) < loi) ∨ (loi ≤ ((longV rest : Nat) : Int) ∧ hii < ((longV rest : Nat) : Int)) := by omega
        have hb3 : ∀ w, RRdrAt w0 w g (rest, 0) → Calls Try.prog 52 #[.pointer (some ⟨g, 0, none⟩), .int .i64 3] w fun e w' => e = .returned (.tuple #[]) ∧ RRdrAt w0 w' g (rest, 3) ∧ Keep (· = g) w w' ∧ w'.heap.size = w.heap.size := hbad 3 3 rfl
        clear hbad hrange
        generalize longV rest = v at *
        generalize (endsL 9 0 rest).1 = sz at *
        rcases hcs with hc | ⟨hc, hc2⟩
        all_goals
          go_enter Try.func48, Try.ntmps48
          go_wp2
          go_big_quiet ((go_at_call 80; exact Calls.quiet_of_same ((hlong _ (hrd _)).mono fun e w' ⟨h1, h2⟩ => ⟨h1, h2.symm⟩)))
          go_wp2_with (first
            | ((go_at_call 52; (with_reducible refine (hb3 _ (hH.out.drewN _)).mono ?_); rintro e w2 ⟨rfl, hr2, k2, s2⟩); have H2 := Lib.hid hr2; have S2 := Lib.hid s2; clear hr2 s2)
            | fail "no arm")
          go_ret
          exact ⟨rfl, H2.out, Keep.of_drewN k2, S2.out⟩
      · rw [if_neg hrange]
        have hc1 : loi ≤ ((longV rest : Nat) : Int) := by omega
        have hc2 : ((longV rest : Nat) : Int) ≤ hii := by omega
        clear hbad hrange
        generalize longV rest = v at *
        generalize (endsL 9 0 rest).1 = sz at *
        go_enter Try.func48, Try.ntmps48
        go_wp2
        go_big_quiet ((go_at_call 80; exact Calls.quiet_of_same ((hlong _ (hrd _)).mono fun e w' ⟨h1, h2⟩ => ⟨h1, h2.symm⟩)))
        go_wp2
        go_ret
        refine ⟨rfl, ?_, ?_, ?_⟩
        · rw [drewN_set]; exact hF.out.drewN _
        · rw [drewN_set]; exact ((Keep.refl (· = g) w).set_ _ rfl).drewN _
        · simp [World.setCell]
    · rw [if_pos hl]
      have hz1 : (((((endsL 9 0 rest).2 : Nat) : Int)) != 0) = true := by rw [bne_iff_ne]; omega
      have hb3 : ∀ w, RRdrAt w0 w g (rest, 0) → Calls Try.prog 52 #[.pointer (some ⟨g, 0, none⟩), .int .i64 ((endsL 9 0 rest).2 : Nat)] w fun e w' => e = .returned (.tuple #[]) ∧ RRdrAt w0 w' g (rest, (endsL 9 0 rest).2) ∧ Keep (· = g) w w' ∧ w'.heap.size = w.heap.size := hbad _ _ rfl
      clear hbad hle hl hfin
      generalize longV rest = v at *
      generalize (endsL 9 0 rest).1 = sz at *
      generalize (endsL 9 0 rest).2 = z at *
      go_enter Try.func48, Try.ntmps48
      go_wp2
      go_big_quiet ((go_at_call 80; exact Calls.quiet_of_same ((hlong _ (hrd _)).mono fun e w' ⟨h1, h2⟩ => ⟨h1, h2.symm⟩)))
      go_wp2_with (first
        | ((go_at_call 52; (with_reducible refine (hb3 _ (hH.out.drewN _)).mono ?_); rintro e w2 ⟨rfl, hr2, k2, s2⟩); have H2 := Lib.hid hr2; have S2 := Lib.hid s2; clear hr2 s2)
        | fail "no arm")
      go_ret
      exact ⟨rfl, H2.out, Keep.of_drewN k2, S2.out⟩
  · rw [if_pos he]
    have f8 : (((er : Nat) : Int) != 0) = true := by rw [bne_iff_ne]; omega
    have hH := Lib.hid h0
    clear h0 hx hbad
    go_enter Try.func48, Try.ntmps48
    go_wp2
    go_ret
    exact ⟨rfl, hH.out, Keep.refl _ _, rfl⟩

theorem RRdrAt.then_below {w0 w w' : World} {g : Nat} {s : RS} (h : RRdrAt w0 w g s) (hb : Below w.heap.size w w') : RRdrAt w0 w' g s := h.keep (F := fun _ => False) (Keep.of_below hb) (fun _ e => e.elim)
set_option maxRecDepth 100000 in
set_option maxHeartbeats 2000000 in
theorem refrzig_any (w0 : World) (g : Nat) (s : RS) (w : World) (h : RRdrAt w0 w g s) :
    Calls Try.prog 50 #[.pointer (some ⟨g, 0, none⟩)] w fun e w' => e = .returned (.int .i64 (rZig s).1) ∧ RRdrAt w0 w' g (rZig s).2 ∧ Keep (· = g) w w' := by
  have h0 := h
  have hbad := fun (z : Nat) (zi : Int) (hz : zi = (z : Int)) w h => refbad_any w0 g s z zi hz w h
  obtain ⟨hb, hg, A, n, c, i, bs, hx, hr, hi', hd, h1, h2⟩ := h
  obtain ⟨rest, er⟩ := s
  simp only at hd
  have c0 : w.cell? ⟨g, 0, none⟩ = some (.slice A n c) := hx.cell 0
  have c1 : w.cell? ⟨g, 1, none⟩ = some (.int .i64 (i : Int)) := hx.cell 1
  have c2 : w.cell? ⟨g, 2, none⟩ = some (.int .i64 (er : Int)) := hx.cell 2
  have hlen := hr.1
  unfold rZig
  simp only
  by_cases he : er = 0
  · subst he
    rw [if_neg (by simp)]
    have hcut := run_cut_from (P := Try.prog) elemU8 A n c i hi'
    have hrw : RB w (if c = i then A else A.map (·.add (i * 1))) (n - i) rest := by rw [← hd]; exact cut_rb (hr.below hb (Nat.le_refl _)) hi' h1
    generalize hAA : (if c = i then A else A.map (·.add (i * 1))) = AA at *
    have hzag := fun w h => refzag_any AA (n - i) (c - i) rest w h (by omega)
    have hle : i + zagS rest ≤ n := by have := zagS_le rest; have := hrw.1; omega
    have hfin := fun w hb hx => RRdrAt.skip (w := w) (k := zagS rest) (z := 0) hb hg hx rfl hr hle h1 h2
    rw [hd] at hfin
    have hH := Lib.hid (show RRdrAt w0 w g (rest, 0) from h0)
    have hX := Lib.hid hx
    have f1 := hx.frozen 1
    have hgl := hx.lt
    have hcm : n ≤ 9223372036854775807 := by unfold maxLen at h2; omega
    have hrd : RB w.drew AA (n - i) rest := hrw
    clear h0 hx hr hd hAA hrw
    by_cases hl : zagE rest = 0
    · rw [if_neg (by simp [hl])]
      rw [hl] at hzag
      have Hf := Lib.hid hfin
      clear hl hfin hbad
      generalize zagV rest = v at *
      generalize zagS rest = sz at *
      go_enter Try.func50, Try.ntmps50
      go_wp2
      go_region_held3 (fun w' => w'.cell? ⟨g, 0, none⟩ = some (.slice A n c) ∧ w'.cell? ⟨g, 1, none⟩ = some (.int .i64 (i : Int))) (first | go_keep | (refine ⟨?_, ?_⟩ <;> assumption)) (first
        | ((go_at_call 81; (with_reducible refine (hzag _ hrd).mono ?_); rintro e w1 ⟨rfl, hb1⟩); have hx1 := Blk.below (w' := w1) hX.out.drew hb1 hX.out.drew.lt; have c10 : w1.cell? ⟨g, 0, none⟩ = some (.slice A n c) := hx1.cell 0; have c11 : w1.cell? ⟨g, 1, none⟩ = some (.int .i64 (i : Int)) := hx1.cell 1; have f11 := hx1.frozen 1; have l11 := hx1.lt)
        | fail "no arm")
      go_wp2
      go_ret
      have kk : Keep (fun _ => False) w w1 := Keep.of_drew (Keep.of_below hb1)
      exact ⟨rfl, Hf.out w1 (hb.trans (kk.below (fun _ e => e.elim) hb.size)) hx1, (kk.mono (fun _ _ e => e.elim)).set_ _ rfl⟩
    · rw [if_pos hl]
      have hz1 : (((zagE rest : Nat) : Int) != 0) = true := by rw [bne_iff_ne]; omega
      have hb3 : ∀ w, RRdrAt w0 w g (rest, 0) → Calls Try.prog 52 #[.pointer (some ⟨g, 0, none⟩), .int .i64 (zagE rest : Nat)] w fun e w' => e = .returned (.tuple #[]) ∧ RRdrAt w0 w' g (rest, zagE rest) ∧ Keep (· = g) w w' ∧ w'.heap.size = w.heap.size := hbad _ _ rfl
      clear hbad hle hl hfin
      generalize zagV rest = v at *
      generalize zagS rest = sz at *
      generalize zagE rest = z at *
      go_enter Try.func50, Try.ntmps50
      go_wp2
      go_region_held3 (fun w' => w'.cell? ⟨g, 0, none⟩ = some (.slice A n c) ∧ w'.cell? ⟨g, 1, none⟩ = some (.int .i64 (i : Int))) (first | go_keep | (refine ⟨?_, ?_⟩ <;> assumption)) (first
        | ((go_at_call 81; (with_reducible refine (hzag _ hrd).mono ?_); rintro e w1 ⟨rfl, hb1⟩); have hx1 := Blk.below (w' := w1) hX.out.drew hb1 hX.out.drew.lt; have c10 : w1.cell? ⟨g, 0, none⟩ = some (.slice A n c) := hx1.cell 0; have c11 : w1.cell? ⟨g, 1, none⟩ = some (.int .i64 (i : Int)) := hx1.cell 1; have H1 := Lib.hid (hH.out.drew.then_below hb1))
        | fail "no arm")
      go_wp2_with (first
        | ((go_at_call 52; (with_reducible refine (hb3 _ H1.out).mono ?_); rintro e w2 ⟨rfl, hr2, k2, s2⟩); have H2 := Lib.hid hr2; clear hr2 s2)
        | fail "no arm")
      go_ret
      have kk : Keep (fun _ => False) w w1 := Keep.of_drew (Keep.of_below hb1)
      exact ⟨rfl, H2.out, (kk.mono (fun _ _ e => e.elim)).trans k2 (fun _ _ e => e)⟩
  · rw [if_pos he]
    have f8 : (((er : Nat) : Int) != 0) = true := by rw [bne_iff_ne]; omega
    have hH := Lib.hid h0
    clear h0 hx hbad
    go_enter Try.func50, Try.ntmps50
    go_wp2
    go_ret
    exact ⟨rfl, hH.out, Keep.refl _ _⟩

set_option maxRecDepth 100000 in
set_option maxHeartbeats 2000000 in
theorem refrtypes_any (w0 : World) (g : Nat) (s : RS) (w : World) (h : RRdrAt w0 w g s) :
    Calls Try.prog 47 #[.pointer (some ⟨g, 0, none⟩)] w fun e w' => ∃ B d, e = .returned (.slice B (rShort 1 8 s).1 d) ∧ Ow iv w' w.heap.size 3 B (rShort 1 8 s).1 d (rTypes s).1 ∧ RRdrAt w0 w' g (rTypes s).2 ∧ Keep (· = g) w w' := by
  have hH := Lib.hid h
  have hgw := h.2.1
  have hbw := h.1.size
  have hglt : g < w.heap.size := by obtain ⟨_, _, A, n, c, i, bs, hx, _⟩ := h; exact hx.lt
  have hsh := refrshort_any w0 g s 1 8 1 8 rfl rfl w h
  have hle := rShort_le 1 8 s
  unfold rTypes
  generalize rShort 1 8 s = S at *
  obtain ⟨N, S⟩ := S
  simp only at hsh hle ⊢
  clear h
  go_enter Try.func47, Try.ntmps47
  go_wp2_with (first
    | ((go_at_call 48; (with_reducible refine (hsh).mono ?_); rintro e w1 ⟨rfl, hr1, k1, s1⟩); have H1 := Lib.hid hr1; clear hr1 s1)
    | fail "no arm")
  have hz0 : rKinds 0 S = ([], S) := rfl
  go_loopw [4, 5] (fun v i wr => ∃ (k : Nat) (B : Option Addr) (d : Nat), k ≤ N ∧ i = .int .i64 (k : Nat) ∧ v = .slice B k d ∧ Ow iv wr w.heap.size 3 B k d (rKinds k S).1 ∧ RRdrAt w0 wr g (rKinds k S).2 ∧ Keep (· = g) w wr) (fun _ i _ => N - (intOf i).toNat)
  case atStart => exact ⟨0, none, 0, by omega, rfl, rfl, Ow.nil _ _ _ _, H1.out, k1⟩
  case round =>
    obtain ⟨k, B, d, hk, rfl, rfl, hown, hrd, hkeep⟩ := hrel
    have hsz := hkeep.size
    by_cases hlt : k < N
    · have hkd := refkind_any w0 g (rKinds k S).2 wr hrd
      have hnx : Hid (rKinds (k + 1) S = ((rKinds k S).1 ++ [((rKind (rKinds k S).2).1 : Int)], (rKind (rKinds k S).2).2)) := rfl
      clear hrd hz0
      generalize rKinds k S = P at *
      generalize rKind P.2 = Y at *
      obtain ⟨t, Y⟩ := Y
      simp only at hkd hnx
      have hB : ∀ b, B.map (·.block) = some b → ¬ (b = g) := fun b e e2 => by have := (hown.lt b e).1; omega
      go_wp2_with (first
        | ((go_at_call 49; (with_reducible refine (hkd).mono ?_); rintro e w3 ⟨rfl, hr3, k4, s3⟩); have H3 := Lib.hid hr3; clear hr3 s3; have hown3 := hown.kept k4 hB; have hs4 := k4.size)
        | (at_builtin; refine wpList_app rfl rfl elemInt iv_one (s := .tmp 13) (N := k + 1) (L := P.1 ++ [((t : Nat) : Int)]) rfl (hown3.below (b := w3.heap.size) (by (repeat' (first | (with_reducible exact Below.refl _ _) | (with_reducible assumption) | (with_reducible refine Below.drew ?_) | (with_reducible refine below_drewN ?_ _) | (with_reducible refine Below.alloc ?_ ?_ _) | (with_reducible refine Below.setCell ?_ ?_ _) | omega | (simp; done) | (simp; omega)))) (by first | omega | (simp; done) | (simp; omega))) rfl (k := [((t : Nat) : Int)]) (Rd.of_block (l := [((t : Nat) : Int)]) (heap_top _ _ (by simp)) rfl) rfl (rfl) (by unfold maxLen; omega) (by omega) (by first | omega | (simp; done) | (simp; omega)) ?_; intro A5 c5 w5 hown5 hg5 hat5 hb5)
        | fail "no arm")
      go_roundw
      case rel => exact ⟨k + 1, A5, c5, by omega, by go_num, rfl, by rw [hnx.out]; exact hown5, by rw [hnx.out]; exact H3.out.appd hg5 (fun x e => by have := (hown.lt x e).1; omega), (hkeep.trans k4 (fun _ _ e => e)).appd hg5 (fun x e => (hown.lt x e).1)⟩
      case measure => simp [intOf]; omega
    · have hk9 : k = N := by omega
      subst hk9
      have hF := Lib.hid hrd
      clear hrd
      go_wp2
      go_ret
      exact ⟨B, d, rfl, hown, hF.out, hkeep⟩
end Go.Proofs.Ytkhihgilodhjfaa
namespace Go.Proofs.Ytkhihgilodhjfaa
open Go.RowKit
set_option linter.unusedVariables false
set_option linter.unusedSimpArgs false

/-- Decode's state: the result's place, the reader, the program that grows. -/
structure RDecAt (w wr : World) (gr g gp : Nat) (x : PA) (p : PV) (s : RS) : Prop where
  prog : Blk wr gp 26 [.slice x.A1 x.n1 x.c1, .slice x.A2 x.n2 x.c2, .int .i64 p.regs, .slice x.A3 x.n3 x.c3, .slice x.A4 x.n4 x.c4]
  res : Blk wr gr 26 [.slice none 0 0, .slice none 0 0, .int .i64 0, .slice none 0 0, .slice none 0 0]
  ne : gr ≠ gp ∧ w.heap.size ≤ gr ∧ w.heap.size ≤ gp ∧ gr ≠ g ∧ gp ≠ g
  ins : Ow iv wr w.heap.size 3 x.A1 x.n1 x.c1 p.ins
  outs : Ow iv wr w.heap.size 3 x.A2 x.n2 x.c2 p.outs
  cells : OwS 2 cellE wr w.heap.size 83 x.A3 x.n3 x.c3 p.cells
  code : OwS 5 insE wr w.heap.size 91 x.A4 x.n4 x.c4 p.code
  rdr : RRdrAt w wr g s
theorem RDecAt.rdr' {w wr w' : World} {gr g gp : Nat} {x : PA} {p : PV} {s s' : RS} (h : RDecAt w wr gr g gp x p s) (k : Keep (· = g) wr w') (hr : RRdrAt w w' g s') : RDecAt w w' gr g gp x p s' := by
  obtain ⟨h1, h2, h3, h4, h5, h6, h7, h8⟩ := h
  have hF : ∀ (e : TypeId), 96 ≠ e → ∀ b t cs, w.heap.size ≤ b → Blk wr b t cs → b = g → t ≠ e := fun e he b t cs _ hb e2 => by subst e2; rw [h8.ty hb]; exact he
  exact ⟨h1.keep k (fun e => h3.2.2.2.2 e), h2.keep k (fun e => h3.2.2.2.1 e), h3, h4.keepT k (hF _ (by decide)), h5.keepT k (hF _ (by decide)), h6.keepT k (hF _ (by decide)), h7.keepT k (hF _ (by decide)), hr⟩
theorem RDecAt.pcells {w wr : World} {gr g gp : Nat} {x : PA} {p : PV} {s : RS} (h : RDecAt w wr gr g gp x p s) : wr.cell? ⟨gp, 0, none⟩ = some (.slice x.A1 x.n1 x.c1) ∧ wr.cell? ⟨gp, 1, none⟩ = some (.slice x.A2 x.n2 x.c2) ∧ wr.cell? ⟨gp, 2, none⟩ = some (.int .i64 p.regs) ∧ wr.cell? ⟨gp, 3, none⟩ = some (.slice x.A3 x.n3 x.c3) ∧ wr.cell? ⟨gp, 4, none⟩ = some (.slice x.A4 x.n4 x.c4) := blkc5 h.prog
theorem RDecAt.regs {w wr : World} {gr g gp : Nat} {x : PA} {p : PV} {s : RS} (h : RDecAt w wr gr g gp x p s) (r : Int) : RDecAt w (wr.setCell ⟨gp, 2, none⟩ (.int .i64 r)) gr g gp x { p with regs := r } s := by
  obtain ⟨h1, h2, h3, h4, h5, h6, h7, h8⟩ := h
  have k : Keep (· = gp) wr (wr.setCell ⟨gp, 2, none⟩ (.int .i64 r)) := Keep.one (grown_setCell _)
  have hF : ∀ (e : TypeId), 26 ≠ e → ∀ b t cs, w.heap.size ≤ b → Blk wr b t cs → b = gp → t ≠ e := fun e he b t cs _ hb e2 => by subst e2; rw [Blk.ty2 hb h1]; exact he
  exact ⟨h1.set_ 2 _, h2.keep k (fun e => h3.1 e), h3, h4.keepT k (hF _ (by decide)), h5.keepT k (hF _ (by decide)), h6.keepT k (hF _ (by decide)), h7.keepT k (hF _ (by decide)), h8.keep k (fun x e => ⟨by rw [e]; exact h3.2.2.1, by rw [e]; exact h3.2.2.2.2⟩)⟩
/-- A cell is appended: the slice's row may have grown in place. -/
theorem RDecAt.cell {w wr w5 : World} {gr g gp : Nat} {x : PA} {p : PV} {s : RS} {o : Obj} {A' : Option Addr} {c' : Nat} {l : List (Int × Int)} (h : RDecAt w wr gr g gp x p s) (hg : (wr.alloc o).grownBy w5 (x.A3.map (·.block))) (hown : OwS 2 cellE w5 w.heap.size 83 A' (x.n3 + 1) c' l) :
    RDecAt w (w5.setCell ⟨gp, 3, none⟩ (.slice A' (x.n3 + 1) c')) gr g gp { x with A3 := A', n3 := x.n3 + 1, c3 := c' } { p with cells := l } s := by
  obtain ⟨h1, h2, h3, h4, h5, h6, h7, h8⟩ := h
  have k5 : Keep (fun b => x.A3.map (·.block) = some b) wr w5 := ((Keep.refl _ _).alloc o).trans (G := fun b => x.A3.map (·.block) = some b) (Keep.of_grown hg (fun x e => e)) (fun _ _ e => e)
  have k : Keep (fun b => x.A3.map (·.block) = some b ∨ b = gp) wr (w5.setCell ⟨gp, 3, none⟩ (.slice A' (x.n3 + 1) c')) := (k5.mono (fun _ _ e => .inl e)).set_ _ (.inr rfl)
  have hA : ∀ b t cs, x.A3.map (·.block) = some b → Blk wr b t cs → t = 83 := fun b t cs e hb => by obtain ⟨_, cs', hc⟩ := h6.blk2 e; exact Blk.ty2 hb hc
  have hF : ∀ (e : TypeId), 26 ≠ e → 83 ≠ e → ∀ b t cs, w.heap.size ≤ b → Blk wr b t cs → (x.A3.map (·.block) = some b ∨ b = gp) → t ≠ e := fun e he he' b t cs _ hb e2 => by
    rcases e2 with e2 | e2
    · rw [hA b t cs e2 hb]; exact he'
    · subst e2; rw [Blk.ty2 hb h1]; exact he
  have hp5 : Blk w5 gp _ _ := h1.keep k5 (fun e => by have := hA gp _ _ e h1; revert this; decide)
  refine ⟨hp5.set_ 3 _, h2.keep k (fun e => ?_), h3, h4.keepT k (hF _ (by decide) (by decide)), h5.keepT k (hF _ (by decide) (by decide)), ?_, h7.keepT k (hF _ (by decide) (by decide)), h8.keep k (fun b e => ?_)⟩
  · rcases e with e | e
    · have := hA gr _ _ e h2; revert this; decide
    · exact h3.1 e
  · exact OwS.setFar hown hp5 (by decide) 3 _
  · rcases e with e | e
    · obtain ⟨hb, cs, hc⟩ := h6.blk2 e
      exact ⟨hb, fun e2 => by subst e2; have := h8.ty hc; revert this; decide⟩
    · rw [e]; exact ⟨h3.2.2.1, h3.2.2.2.2⟩
theorem RDecAt.instr {w wr w5 : World} {gr g gp : Nat} {x : PA} {p : PV} {s : RS} {o : Obj} {A' : Option Addr} {c' : Nat} {l : List Ins} (h : RDecAt w wr gr g gp x p s) (hg : (wr.alloc o).grownBy w5 (x.A4.map (·.block))) (hown : OwS 5 insE w5 w.heap.size 91 A' (x.n4 + 1) c' l) :
    RDecAt w (w5.setCell ⟨gp, 4, none⟩ (.slice A' (x.n4 + 1) c')) gr g gp { x with A4 := A', n4 := x.n4 + 1, c4 := c' } { p with code := l } s := by
  obtain ⟨h1, h2, h3, h4, h5, h6, h7, h8⟩ := h
  have k5 : Keep (fun b => x.A4.map (·.block) = some b) wr w5 := ((Keep.refl _ _).alloc o).trans (G := fun b => x.A4.map (·.block) = some b) (Keep.of_grown hg (fun x e => e)) (fun _ _ e => e)
  have k : Keep (fun b => x.A4.map (·.block) = some b ∨ b = gp) wr (w5.setCell ⟨gp, 4, none⟩ (.slice A' (x.n4 + 1) c')) := (k5.mono (fun _ _ e => .inl e)).set_ _ (.inr rfl)
  have hA : ∀ b t cs, x.A4.map (·.block) = some b → Blk wr b t cs → t = 91 := fun b t cs e hb => by obtain ⟨_, cs', hc⟩ := h7.blk2 e; exact Blk.ty2 hb hc
  have hF : ∀ (e : TypeId), 26 ≠ e → 91 ≠ e → ∀ b t cs, w.heap.size ≤ b → Blk wr b t cs → (x.A4.map (·.block) = some b ∨ b = gp) → t ≠ e := fun e he he' b t cs _ hb e2 => by
    rcases e2 with e2 | e2
    · rw [hA b t cs e2 hb]; exact he'
    · subst e2; rw [Blk.ty2 hb h1]; exact he
  have hp5 : Blk w5 gp _ _ := h1.keep k5 (fun e => by have := hA gp _ _ e h1; revert this; decide)
  refine ⟨hp5.set_ 4 _, h2.keep k (fun e => ?_), h3, h4.keepT k (hF _ (by decide) (by decide)), h5.keepT k (hF _ (by decide) (by decide)), h6.keepT k (hF _ (by decide) (by decide)), ?_, h8.keep k (fun b e => ?_)⟩
  · rcases e with e | e
    · have := hA gr _ _ e h2; revert this; decide
    · exact h3.1 e
  · exact OwS.setFar hown hp5 (by decide) 4 _
  · rcases e with e | e
    · obtain ⟨hb, cs, hc⟩ := h7.blk2 e
      exact ⟨hb, fun e2 => by subst e2; have := h8.ty hc; revert this; decide⟩
    · rw [e]; exact ⟨h3.2.2.1, h3.2.2.2.2⟩
theorem RDecAt.drew {w wr : World} {gr g gp : Nat} {x : PA} {p : PV} {s : RS} (h : RDecAt w wr gr g gp x p s) : RDecAt w wr.drew gr g gp x p s := by
  obtain ⟨h1, h2, h3, h4, h5, h6, h7, h8⟩ := h
  exact ⟨h1, h2, h3, h4, h5, h6, h7, ⟨Below.drew h8.1, h8.2⟩⟩
theorem RDecAt.cellP {w wr w5 : World} {gr g gp : Nat} {x : PA} {p : PV} {s : RS} {o : Obj} (h : RDecAt w wr gr g gp x p s) (hg : (wr.alloc o).grownBy w5 (x.A3.map (·.block))) : Blk w5 gp 26 [.slice x.A1 x.n1 x.c1, .slice x.A2 x.n2 x.c2, .int .i64 p.regs, .slice x.A3 x.n3 x.c3, .slice x.A4 x.n4 x.c4] :=
  h.prog.keep (((Keep.refl (fun b => x.A3.map (·.block) = some b) _).alloc o).trans (G := fun b => x.A3.map (·.block) = some b) (Keep.of_grown hg (fun x e => e)) (fun _ _ e => e)) (fun e => by obtain ⟨_, cs', hc⟩ := h.cells.blk2 e; have := Blk.ty2 h.prog hc; revert this; decide)
theorem RDecAt.instrP {w wr w5 : World} {gr g gp : Nat} {x : PA} {p : PV} {s : RS} {o : Obj} (h : RDecAt w wr gr g gp x p s) (hg : (wr.alloc o).grownBy w5 (x.A4.map (·.block))) : Blk w5 gp 26 [.slice x.A1 x.n1 x.c1, .slice x.A2 x.n2 x.c2, .int .i64 p.regs, .slice x.A3 x.n3 x.c3, .slice x.A4 x.n4 x.c4] :=
  h.prog.keep (((Keep.refl (fun b => x.A4.map (·.block) = some b) _).alloc o).trans (G := fun b => x.A4.map (·.block) = some b) (Keep.of_grown hg (fun x e => e)) (fun _ _ e => e)) (fun e => by obtain ⟨_, cs', hc⟩ := h.code.blk2 e; have := Blk.ty2 h.prog hc; revert this; decide)
theorem RDecAt.fin {w wr w' : World} {gr g gp : Nat} {x : PA} {p : PV} {s : RS} (h : RDecAt w wr gr g gp x p s) (k : Keep (· = gr) wr w') : ProgRd w' x p ∧ Below w.heap.size w w' := by
  obtain ⟨h1, h2, h3, h4, h5, h6, h7, h8⟩ := h
  have hF : ∀ (e : TypeId), 26 ≠ e → ∀ b t cs, w.heap.size ≤ b → Blk wr b t cs → b = gr → t ≠ e := fun e he b t cs _ hb e2 => by subst e2; rw [Blk.ty2 hb h2]; exact he
  exact ⟨⟨(h4.keepT k (hF _ (by decide))).rd.ri, (h5.keepT k (hF _ (by decide))).rd.ri, (h6.keepT k (hF _ (by decide))).rd, (h7.keepT k (hF _ (by decide))).rd, h4.cap, h5.cap, h6.cap, h7.cap⟩, h8.1.trans (k.below (fun x e => by rw [e]; exact h3.2.1) h8.1.size)⟩
theorem RDecAt.drewN {w wr : World} {gr g gp : Nat} {x : PA} {p : PV} {s : RS} (h : RDecAt w wr gr g gp x p s) (k : Nat) : RDecAt w (wr.drewN k) gr g gp x p s := by
  obtain ⟨h1, h2, h3, h4, h5, h6, h7, h8⟩ := h
  exact ⟨h1, h2, h3, h4, h5, h6, h7, h8.drewN k⟩
theorem RDecAt.rcells {w wr : World} {gr g gp : Nat} {x : PA} {p : PV} {s : RS} (h : RDecAt w wr gr g gp x p s) : wr.cell? ⟨gr, 0, none⟩ = some (.slice none 0 0) ∧ wr.cell? ⟨gr, 1, none⟩ = some (.slice none 0 0) ∧ wr.cell? ⟨gr, 2, none⟩ = some (.int .i64 0) ∧ wr.cell? ⟨gr, 3, none⟩ = some (.slice none 0 0) ∧ wr.cell? ⟨gr, 4, none⟩ = some (.slice none 0 0) := blkc5 h.res
/-- A store of a slice of types into the program. -/
theorem RDecAt.ins_ {w wr : World} {gr g gp n c : Nat} {x : PA} {p : PV} {s : RS} {A : Option Addr} {l : List Int} (h : RDecAt w wr gr g gp x p s) (ho : Ow iv wr w.heap.size 3 A n c l) : RDecAt w (wr.setCell ⟨gp, 0, none⟩ (.slice A n c)) gr g gp { x with A1 := A, n1 := n, c1 := c } { p with ins := l } s := by
  obtain ⟨h1, h2, h3, h4, h5, h6, h7, h8⟩ := h
  have k : Keep (· = gp) wr (wr.setCell ⟨gp, 0, none⟩ (.slice A n c)) := Keep.one (grown_setCell _)
  have hF : ∀ (e : TypeId), 26 ≠ e → ∀ b t cs, w.heap.size ≤ b → Blk wr b t cs → b = gp → t ≠ e := fun e he b t cs _ hb e2 => by subst e2; rw [Blk.ty2 hb h1]; exact he
  exact ⟨h1.set_ 0 _, h2.keep k (fun e => h3.1 e), h3, ho.keepT k (hF _ (by decide)), h5.keepT k (hF _ (by decide)), h6.keepT k (hF _ (by decide)), h7.keepT k (hF _ (by decide)), h8.keep k (fun x e => ⟨by rw [e]; exact h3.2.2.1, by rw [e]; exact h3.2.2.2.2⟩)⟩
theorem RDecAt.outs_ {w wr : World} {gr g gp n c : Nat} {x : PA} {p : PV} {s : RS} {A : Option Addr} {l : List Int} (h : RDecAt w wr gr g gp x p s) (ho : Ow iv wr w.heap.size 3 A n c l) : RDecAt w (wr.setCell ⟨gp, 1, none⟩ (.slice A n c)) gr g gp { x with A2 := A, n2 := n, c2 := c } { p with outs := l } s := by
  obtain ⟨h1, h2, h3, h4, h5, h6, h7, h8⟩ := h
  have k : Keep (· = gp) wr (wr.setCell ⟨gp, 1, none⟩ (.slice A n c)) := Keep.one (grown_setCell _)
  have hF : ∀ (e : TypeId), 26 ≠ e → ∀ b t cs, w.heap.size ≤ b → Blk wr b t cs → b = gp → t ≠ e := fun e he b t cs _ hb e2 => by subst e2; rw [Blk.ty2 hb h1]; exact he
  exact ⟨h1.set_ 1 _, h2.keep k (fun e => h3.1 e), h3, h4.keepT k (hF _ (by decide)), ho.keepT k (hF _ (by decide)), h6.keepT k (hF _ (by decide)), h7.keepT k (hF _ (by decide)), h8.keep k (fun x e => ⟨by rw [e]; exact h3.2.2.1, by rw [e]; exact h3.2.2.2.2⟩)⟩
theorem rdecPost_ok {w wr w' : World} {gr g gp : Nat} {x : PA} {p : PV} {s : RS} (z : Nat) (hz : z = 0) (h : RDecAt w wr gr g gp x p s) (k : Keep (· = gr) wr w') :
    DecPost w (decEnd z p) (.returned (.tuple #[.agg #[.slice x.A1 x.n1 x.c1, .slice x.A2 x.n2 x.c2, .int .i64 p.regs, .slice x.A3 x.n3 x.c3, .slice x.A4 x.n4 x.c4], .int .i64 0])) w' := by
  unfold decEnd
  rw [if_neg (by omega)]
  exact ⟨x, rfl, (h.fin k).1, (h.fin k).2⟩
theorem rdecPost_no {w wr w' : World} {gr g gp : Nat} {x : PA} {p : PV} {s : RS} (z : Nat) (hz : z ≠ 0) (h : RDecAt w wr gr g gp x p s) (k : Keep (· = gr) wr w') :
    DecPost w (decEnd z p) (.returned (.tuple #[.agg #[.slice none 0 0, .slice none 0 0, .int .i64 0, .slice none 0 0, .slice none 0 0], .int .i64 (z : Nat)])) w' := by
  unfold decEnd
  rw [if_pos hz]
  refine ⟨noPA, rfl, ⟨⟨rfl, Row.nil _ _ _⟩, ⟨rfl, Row.nil _ _ _⟩, ⟨rfl, rfl, Row.nil _ _ _⟩, ⟨rfl, rfl, Row.nil _ _ _⟩, ?_, ?_, ?_, ?_⟩, (h.fin k).2⟩ <;> exact ⟨Nat.le_refl _, by unfold maxLen; show 0 ≤ _; omega⟩
end Go.Proofs.Ytkhihgilodhjfaa
