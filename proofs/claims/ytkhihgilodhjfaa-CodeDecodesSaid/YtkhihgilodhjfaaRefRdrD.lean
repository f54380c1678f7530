/- Contracts of the reference of code: Decode, the walk. -/
import Derived.Test.YtkhihgilodhjfaaRefRdrA
namespace Go.Proofs.Ytkhihgilodhjfaa
open Go.RowKit
set_option linter.unusedVariables false
set_option linter.unusedSimpArgs false

theorem rInstr_0 {s : RS} (h : cls ((rByte s).1 : Int) = 0) : rInstr s = (⟨((rByte s).1 : Nat), ((rShort 0 9223372036854775807 (needS (rByte s).2 false 11)).1 : Nat), 0, 0, 0⟩, (rShort 0 9223372036854775807 (needS (rByte s).2 false 11)).2) := by
  unfold rInstr rOp rOpt rOptZ; simp only [h]; rfl
theorem rInstr_1 {s : RS} (h : cls ((rByte s).1 : Int) = 1) : rInstr s = (⟨((rByte s).1 : Nat), ((rShort 0 9223372036854775807 (rByte s).2).1 : Nat), 0, 0, (rZig (rShort 0 9223372036854775807 (rByte s).2).2).1⟩, (rZig (rShort 0 9223372036854775807 (rByte s).2).2).2) := by
  unfold rInstr rOp rOpt rOptZ; simp only [h]; rfl
theorem rInstr_2 {s : RS} (h : cls ((rByte s).1 : Int) = 2) : rInstr s = (⟨((rByte s).1 : Nat), ((rShort 0 9223372036854775807 (rByte s).2).1 : Nat), ((rShort 0 9223372036854775807 (rShort 0 9223372036854775807 (rByte s).2).2).1 : Nat), 0, 0⟩, (rShort 0 9223372036854775807 (rShort 0 9223372036854775807 (rByte s).2).2).2) := by
  unfold rInstr rOp rOpt rOptZ; simp only [h]; rfl
theorem rInstr_3 {s : RS} (h : cls ((rByte s).1 : Int) = 3) : rInstr s = (⟨((rByte s).1 : Nat), ((rShort 0 9223372036854775807 (rByte s).2).1 : Nat), ((rShort 0 9223372036854775807 (rShort 0 9223372036854775807 (rByte s).2).2).1 : Nat), ((rShort 0 9223372036854775807 (rShort 0 9223372036854775807 (rShort 0 9223372036854775807 (rByte s).2).2).2).1 : Nat), 0⟩, (rShort 0 9223372036854775807 (rShort 0 9223372036854775807 (rShort 0 9223372036854775807 (rByte s).2).2).2).2) := by
  unfold rInstr rOp rOpt rOptZ; simp only [h]; rfl
theorem rInstr_4 {s : RS} (h : cls ((rByte s).1 : Int) = 4) : rInstr s = (⟨((rByte s).1 : Nat), ((rShort 0 9223372036854775807 (rByte s).2).1 : Nat), ((rShort 0 9223372036854775807 (rShort 0 9223372036854775807 (rByte s).2).2).1 : Nat), ((rShort 0 9223372036854775807 (rShort 0 9223372036854775807 (rShort 0 9223372036854775807 (rByte s).2).2).2).1 : Nat), (rZig (rShort 0 9223372036854775807 (rShort 0 9223372036854775807 (rShort 0 9223372036854775807 (rByte s).2).2).2).2).1⟩, (rZig (rShort 0 9223372036854775807 (rShort 0 9223372036854775807 (rShort 0 9223372036854775807 (rByte s).2).2).2).2).2) := by
  unfold rInstr rOp rOpt rOptZ; simp only [h]; rfl
set_option maxRecDepth 100000 in
set_option maxHeartbeats 20000000 in
theorem refdecode_walk (A : Option Addr) (n c : Nat) (bs : List UInt8) (w : World) (hl : RB w A n bs) (h1 : n ≤ c) (h2 : c ≤ maxLen)
    (I O : List Int × RS) (nI nO : Nat) (R N M : Nat × RS) (C : Nat → List (Int × Int) × RS) (J : Nat → List Ins × RS)
    (hN60 : N.1 ≤ 60) (hM : M.1 ≤ 2048)
    (hI : ∀ wr, RRdrAt w wr (w.heap.size + 1) (bs, 0) → Calls Try.prog 47 #[.pointer (some ⟨w.heap.size + 1, 0, none⟩)] wr fun e w' => ∃ B d, e = .returned (.slice B nI d) ∧ Ow iv w' wr.heap.size 3 B nI d I.1 ∧ RRdrAt w w' (w.heap.size + 1) I.2 ∧ Keep (· = w.heap.size + 1) wr w')
    (hO : ∀ wr, RRdrAt w wr (w.heap.size + 1) I.2 → Calls Try.prog 47 #[.pointer (some ⟨w.heap.size + 1, 0, none⟩)] wr fun e w' => ∃ B d, e = .returned (.slice B nO d) ∧ Ow iv w' wr.heap.size 3 B nO d O.1 ∧ RRdrAt w w' (w.heap.size + 1) O.2 ∧ Keep (· = w.heap.size + 1) wr w')
    (hR : ∀ wr, RRdrAt w wr (w.heap.size + 1) O.2 → Calls Try.prog 48 #[.pointer (some ⟨w.heap.size + 1, 0, none⟩), .int .i64 0, .int .i64 1600] wr fun e w' => e = .returned (.int .i64 (R.1 : Nat)) ∧ RRdrAt w w' (w.heap.size + 1) R.2 ∧ Keep (· = w.heap.size + 1) wr w' ∧ w'.heap.size = wr.heap.size)
    (hN : ∀ wr, RRdrAt w wr (w.heap.size + 1) R.2 → Calls Try.prog 48 #[.pointer (some ⟨w.heap.size + 1, 0, none⟩), .int .i64 0, .int .i64 60] wr fun e w' => e = .returned (.int .i64 (N.1 : Nat)) ∧ RRdrAt w w' (w.heap.size + 1) N.2 ∧ Keep (· = w.heap.size + 1) wr w' ∧ w'.heap.size = wr.heap.size)
    (hC0 : C 0 = ([], N.2)) (hC1 : ∀ k, C (k + 1) = ((C k).1 ++ [(rCell (C k).2).1], (rCell (C k).2).2))
    (hM' : ∀ wr, RRdrAt w wr (w.heap.size + 1) (C N.1).2 → Calls Try.prog 48 #[.pointer (some ⟨w.heap.size + 1, 0, none⟩), .int .i64 0, .int .i64 2048] wr fun e w' => e = .returned (.int .i64 (M.1 : Nat)) ∧ RRdrAt w w' (w.heap.size + 1) M.2 ∧ Keep (· = w.heap.size + 1) wr w' ∧ w'.heap.size = wr.heap.size)
    (hJ0 : J 0 = ([], M.2)) (hJ1 : ∀ k, J (k + 1) = ((J k).1 ++ [(rInstr (J k).2).1], (rInstr (J k).2).2))
    (E : RS) (hE : E = needS (J M.1).2 (decide ((J M.1).2.1.length = 0)) 12) :
    Calls Try.prog 18 #[.slice A n c] w (DecPost w (decEnd E.2 ⟨I.1, O.1, R.1, (C N.1).1, (J M.1).1⟩)) := by
  have hbox : RDecAt w (((w.alloc (.cells #[.slice none 0 0, .slice none 0 0, .int .i64 0, .slice none 0 0, .slice none 0 0] 26)).alloc (.cells #[.slice A n c, .int .i64 0, .int .i64 0] 96)).alloc (.cells #[.slice none 0 0, .slice none 0 0, .int .i64 0, .slice none 0 0, .slice none 0 0] 26)) w.heap.size (w.heap.size + 1) (w.heap.size + 2) noPA ⟨[], [], 0, [], []⟩ (bs, 0) :=
    ⟨(by (repeat' (first | (with_reducible assumption) | (with_reducible refine Blk.top _ (by first | rfl | omega | (simp; done) | (simp; omega)) rfl) | (with_reducible refine Blk.alloc ?_ _) | (with_reducible refine Blk.drew ?_) | (with_reducible refine Blk.drewN ?_ _) | (with_reducible refine Blk.far ?_ (by first | omega | (simp; done) | (simp; omega)) _)))), (by (repeat' (first | (with_reducible assumption) | (with_reducible refine Blk.top _ (by first | rfl | omega | (simp; done) | (simp; omega)) rfl) | (with_reducible refine Blk.alloc ?_ _) | (with_reducible refine Blk.drew ?_) | (with_reducible refine Blk.drewN ?_ _) | (with_reducible refine Blk.far ?_ (by first | omega | (simp; done) | (simp; omega)) _)))), ⟨by omega, by omega, by omega, by omega, by omega⟩, Ow.nil _ _ _ _, Ow.nil _ _ _ _, OwS.nil _ _ _ _ _, OwS.nil _ _ _ _ _, ((((Below.refl _ _).alloc (Nat.le_refl _) _).alloc (by simp) _).alloc (by simp; omega) _), by omega, A, n, c, 0, bs, (by (repeat' (first | (with_reducible assumption) | (with_reducible refine Blk.top _ (by first | rfl | omega | (simp; done) | (simp; omega)) rfl) | (with_reducible refine Blk.alloc ?_ _) | (with_reducible refine Blk.drew ?_) | (with_reducible refine Blk.drewN ?_ _) | (with_reducible refine Blk.far ?_ (by first | omega | (simp; done) | (simp; omega)) _)))), hl, Nat.zero_le _, rfl, h1, h2⟩
  have H0 := Lib.hid hbox
  have c0 := Lib.hid hC0
  have j0 := Lib.hid hJ0
  have HE := Lib.hid hE
  clear hE
  have cS := Lib.hid hC1
  have jS := Lib.hid hJ1
  clear hbox hC0 hJ0 hC1 hJ1
  go_enter Try.func18, Try.ntmps18
  go_wp2_with (first
    | ((go_at_call 47; (with_reducible refine (hI _ H0.out.rdr).mono ?_); rintro e w1 ⟨B1, d1, rfl, o1, hr1, k1⟩); have D1 := Lib.hid (H0.out.rdr' k1 hr1); have sz1 : w.heap.size + 3 ≤ w1.heap.size := (by have := k1.size; simp at this; omega); have E1 := Lib.hid (D1.out.ins_ (o1.rebase (by simp; omega))); obtain ⟨p10, p11, p12, p13, p14⟩ := D1.out.pcells; have fp1 := D1.out.prog.frozen; clear hr1)
    | ((go_at_call 47; (with_reducible refine (hO _ E1.out.rdr).mono ?_); rintro e w2 ⟨B2, d2, rfl, o2, hr2, k2⟩); have D2 := Lib.hid (E1.out.rdr' k2 hr2); have sz2 : w.heap.size + 3 ≤ w2.heap.size := (by have := k2.size; simp [World.setCell] at this; omega); have E2 := Lib.hid (D2.out.outs_ (o2.rebase (by simp [World.setCell]; omega))); obtain ⟨p20, p21, p22, p23, p24⟩ := D2.out.pcells; have fp2 := D2.out.prog.frozen; clear hr2)
    | ((go_at_call 48; (with_reducible refine (hR _ E2.out.rdr).mono ?_); rintro e w3 ⟨rfl, hr3, k3, s3⟩); have D3 := Lib.hid (E2.out.rdr' k3 hr3); have sz3 : w.heap.size + 3 ≤ w3.heap.size := (by have := k3.size; simp [World.setCell] at this; omega); have E3 := Lib.hid (D3.out.regs (R.1 : Nat)); obtain ⟨p30, p31, p32, p33, p34⟩ := D3.out.pcells; have fp3 := D3.out.prog.frozen; clear hr3 s3)
    | ((go_at_call 48; (with_reducible refine (hN _ E3.out.rdr).mono ?_); rintro e w4 ⟨rfl, hr4, k4, s4⟩); have D4 := Lib.hid (E3.out.rdr' k4 hr4); have sz4 : w.heap.size + 3 ≤ w4.heap.size := (by have := k4.size; simp [World.setCell] at this; omega); clear hr4 s4)
    | fail "no arm")
  have q4 : RDecAt w w4 w.heap.size (w.heap.size + 1) (w.heap.size + 2) ⟨B1, nI, d1, B2, nO, d2, none, 0, 0, none, 0, 0⟩ ⟨I.1, O.1, R.1, [], []⟩ N.2 := D4.out
  have hNx := Lib.hid hN60
  have hMx := Lib.hid hM
  clear hI hO hR hN hN60 hM p10 p11 p12 p13 p14 p20 p21 p22 p23 p24 p30 p31 p32 p33 p34 fp1 fp2 fp3
  obtain ⟨N1, N2⟩ := N
  simp only at hNx c0 hM' q4 ⊢
  go_loopw [7] (fun i wr => ∃ (k : Nat) (B : Option Addr) (d : Nat), k ≤ N1 ∧ i = .int .i64 (k : Nat) ∧ w4.heap.size ≤ wr.heap.size ∧ RDecAt w wr w.heap.size (w.heap.size + 1) (w.heap.size + 2) ⟨B1, nI, d1, B2, nO, d2, B, k, d, none, 0, 0⟩ ⟨I.1, O.1, R.1, (C k).1, []⟩ (C k).2) (fun i _ => N1 - (intOf i).toNat)
  case atStart => exact ⟨0, none, 0, by omega, rfl, Nat.le_refl _, by rw [c0.out]; exact q4⟩
  case round =>
    obtain ⟨k, B, d, hk, rfl, hwz, hx⟩ := hrel
    have sz5 : w.heap.size + 3 ≤ wr.heap.size := by omega
    by_cases hlt : k < N1
    · have hNl := hNx.out
      have hX := Lib.hid hx
      have hS := Lib.hid (cS.out k)
      have hkd := refkind_any w (w.heap.size + 1) (C k).2 wr hx.rdr
      have hzg := fun wr h => refrzig_any w (w.heap.size + 1) (rKind (C k).2).2 wr h
      have hrc : rCell (C k).2 = ((((rKind (C k).2).1 : Int), (rZig (rKind (C k).2).2).1), needS (rZig (rKind (C k).2).2).2 (valueB (rKind (C k).2).1 (rZig (rKind (C k).2).2).1) 11) := rfl
      rw [hrc] at hS
      have hval := fun w => refvalue_any (rKind (C k).2).1 (rZig (rKind (C k).2).2).1 w
      have hbd := fun wr h => refbad_any w (w.heap.size + 1) (rZig (rKind (C k).2).2).2 11 11 rfl wr h
      rw [badS_need] at hbd
      clear hrc hx
      generalize rKind (C k).2 = Y at *
      obtain ⟨kt, Y⟩ := Y
      simp only at hkd hzg hval hbd hS
      generalize rZig Y = Z at *
      obtain ⟨z, Z⟩ := Z
      simp only at hzg hval hbd hS
      cases hv : valueB kt z
      all_goals rw [hv] at hval hS
      case' true => rw [needS_true] at hS; clear hbd
      case' false => generalize needS Z false 11 = ZE at *
      all_goals
        clear hv
        go_wp2_with (first
          | ((go_at_call 49; (with_reducible refine (hkd).mono ?_); rintro e w5 ⟨rfl, hr5, k5, s5⟩); have H5 := Lib.hid (hr5.alloc (.cells #[.int .i64 (kt : Int), .int .i64 0] 83)); have sw5 := k5.size; have hgx : w5.heap.size ≠ w.heap.size + 1 := (by omega); have hpx : w.heap.size + 2 ≠ w5.heap.size := (by omega); clear hr5 s5)
          | ((go_at_call 50; (with_reducible refine (hzg _ H5.out).mono ?_); rintro e w6 ⟨rfl, hr6, k6⟩); have hx6 := Blk.keep (F := (· = w.heap.size + 1)) (w' := w6) (g := w5.heap.size) (t := 83) (cs := [.int .i64 (kt : Int), .int .i64 0]) (by (repeat' (first | (with_reducible assumption) | (with_reducible refine Blk.top _ (by first | rfl | omega | (simp; done) | (simp; omega)) rfl) | (with_reducible refine Blk.alloc ?_ _) | (with_reducible refine Blk.drew ?_) | (with_reducible refine Blk.drewN ?_ _) | (with_reducible refine Blk.far ?_ (by first | omega | (simp; done) | (simp; omega)) _)))) k6 hgx; have fx6 := hx6.frozen; obtain ⟨x60, x61⟩ := blk2 hx6; have xl6 := hx6.lt; have H6 := Lib.hid (hr6.setFar (by omega) hgx 1 (.int .i64 z)); have K6 : Keep (· = w.heap.size + 1) wr (w6.setCell ⟨w5.heap.size, 1, none⟩ (.int .i64 z)) := ((k5.alloc _).trans k6 (fun _ _ e => e)).setFresh sw5 1 (.int .i64 z); have D6 := Lib.hid (hX.out.rdr' ((k5.alloc _).trans k6 (fun _ _ e => e)) hr6); obtain ⟨p60, p61, p62, p63, p64⟩ := D6.out.pcells; have fp6 := D6.out.prog.frozen; have lp6 := D6.out.prog.lt; have HD := Lib.hid (hX.out.rdr' K6 H6.out); have sz6 : wr.heap.size ≤ w6.heap.size := (by have := K6.size; simp [World.setCell] at this; exact this); clear hr6)
          | (go_at_call 51; (with_reducible refine (hval _).mono ?_); rintro e w7 ⟨rfl, rfl⟩)
          | ((go_at_call 52; (with_reducible refine (hbd _ H6.out).mono ?_); rintro e w8 ⟨rfl, hr8, k8, s8⟩); have hx8 := (hx6.set_ 1 (.int .i64 z)).keep k8 hgx; have HD8 := Lib.hid (HD.out.rdr' k8 hr8); obtain ⟨p80, p81, p82, p83, p84⟩ := HD8.out.pcells; obtain ⟨x80, x81⟩ := blk2 hx8; have xl8 := hx8.lt; have sz8 := k8.size; have sw8 : w6.heap.size ≤ w8.heap.size := (by simpa [World.setCell] using sz8); clear hr8 s8)
          | (at_builtin; refine wpList_appS rfl rfl elemCell cellE_one (s := .tmp 48) (N := k + 1) (L := (C k).1 ++ [((kt : Int), z)]) rfl (HD8.out.cells.below (b := w8.heap.size) (by (repeat' (first | (with_reducible exact Below.refl _ _) | (with_reducible assumption) | (with_reducible refine Below.drew ?_) | (with_reducible refine below_drewN ?_ _) | (with_reducible refine Below.alloc ?_ ?_ _) | (with_reducible refine Below.setCell ?_ ?_ _) | omega | (simp; done) | (simp; omega)))) (Nat.le_refl _)) rfl (k := [((kt : Int), z)]) (RdS.of_block (l := [((kt : Int), z)]) (heap_top _ _ (by simp)) cellE_len rfl) rfl rfl (by unfold maxLen; omega) (by omega) (by first | omega | (simp; done) | (simp; omega)) ?_; intro A9 c9 w9 hown9 hg9 hat9 hb9; have hp9 := HD8.out.cellP hg9; obtain ⟨p90, p91, p92, p93, p94⟩ := blkc5 hp9; have f9 := hp9.frozen; have l9 := hp9.lt; have HF := Lib.hid (HD8.out.cell hg9 hown9))
          | (at_builtin; refine wpList_appS rfl rfl elemCell cellE_one (s := .tmp 48) (N := k + 1) (L := (C k).1 ++ [((kt : Int), z)]) rfl (HD.out.cells.below (b := (w6.setCell ⟨w5.heap.size, 1, none⟩ (.int .i64 z)).heap.size) (by (repeat' (first | (with_reducible exact Below.refl _ _) | (with_reducible assumption) | (with_reducible refine Below.drew ?_) | (with_reducible refine below_drewN ?_ _) | (with_reducible refine Below.alloc ?_ ?_ _) | (with_reducible refine Below.setCell ?_ ?_ _) | omega | (simp; done) | (simp; omega)))) (by first | omega | (simp; done) | (simp; omega))) rfl (k := [((kt : Int), z)]) (RdS.of_block (l := [((kt : Int), z)]) (heap_top _ _ (by simp)) cellE_len rfl) rfl rfl (by unfold maxLen; omega) (by omega) (by first | omega | (simp; done) | (simp; omega)) ?_; intro A9 c9 w9 hown9 hg9 hat9 hb9; have hp9 := HD.out.cellP hg9; obtain ⟨p90, p91, p92, p93, p94⟩ := blkc5 hp9; have f9 := hp9.frozen; have l9 := hp9.lt; have HF := Lib.hid (HD.out.cell hg9 hown9))
          | fail "no arm")
        go_roundw
        case rel => exact ⟨k + 1, A9, c9, by omega, by go_num, by have := hb9.size; simp [World.setCell] at *; omega, by rw [hS.out]; exact HF.out⟩
        case measure => simp [intOf]; omega
    · have hk9 : k = N1 := by omega
      subst hk9
      have hX := Lib.hid hx
      have hMc := hM' _ hx.rdr
      obtain ⟨M1, M2⟩ := M
      simp only at hMx j0 hMc HE ⊢
      clear hM' hx cS
      go_wp2_with (first
        | ((go_at_call 48; (with_reducible refine (hMc).mono ?_); rintro e w7 ⟨rfl, hr7, k7, s7⟩); have q7 := hX.out.rdr' k7 hr7; clear hr7 s7)
        | fail "no arm")
      have sz7 : w4.heap.size ≤ w7.heap.size := Nat.le_trans hwz k7.size
      go_loopw [10] (fun i wr => ∃ (m : Nat) (D : Option Addr) (f : Nat), m ≤ M1 ∧ i = .int .i64 (m : Nat) ∧ RDecAt w wr w.heap.size (w.heap.size + 1) (w.heap.size + 2) ⟨B1, nI, d1, B2, nO, d2, B, k, d, D, m, f⟩ ⟨I.1, O.1, R.1, (C k).1, (J m).1⟩ (J m).2) (fun i _ => M1 - (intOf i).toNat)
      case atStart => exact ⟨0, none, 0, by omega, rfl, by rw [j0.out]; exact q7⟩
      case round =>
        obtain ⟨m, D, f, hm, rfl, hx⟩ := hrel
        by_cases hlt : m < M1
        · have hNl := hMx.out
          have hX := Lib.hid hx
          have hS := Lib.hid (jS.out m)
          have hpl := hx.prog.lt
          have hone := refone_any w (w.heap.size + 1) (J m).2 wr hx.rdr
          clear hx q7
          generalize hSS : (J m).2 = S at *
          clear hSS
          have hle := cls_le ((rByte S).1 : Int)
          have hcs : cls ((rByte S).1 : Int) = 0 ∨ cls ((rByte S).1 : Int) = 1 ∨ cls ((rByte S).1 : Int) = 2 ∨ cls ((rByte S).1 : Int) = 3 ∨ cls ((rByte S).1 : Int) = 4 := by omega
          clear hle
          rcases hcs with hc | hc | hc | hc | hc
          · have hhas : ∀ w, Calls Try.prog 54 #[.int .i64 ((rByte S).1 : Nat)] w fun e w' => e = .returned (.tuple #[.int .i64 0, .bool false]) ∧ w = w' := fun w => by
              have := has_any ((rByte S).1 : Nat) w
              rw [show hasN ((rByte S).1 : Nat) = 0 from by unfold hasN; rw [hc]; rfl, show hasK ((rByte S).1 : Nat) = false from by unfold hasK; rw [hc]; rfl] at this
              exact this
            rw [rInstr_0 hc] at hS
            have hbd := fun wr h => refbad_any w (w.heap.size + 1) (rByte S).2 11 11 rfl wr h
            have hA := fun wr h => refrshort_any w (w.heap.size + 1) (needS (rByte S).2 false 11) 0 9223372036854775807 0 9223372036854775807 rfl rfl wr h
            rw [badS_need] at hbd
            clear hc
            generalize rByte S = Y at *
            obtain ⟨op, Y⟩ := Y
            simp only at hS hone hhas hA hbd
            generalize needS Y false 11 = Y1 at *
            generalize rShort 0 9223372036854775807 Y1 = yA at *
            obtain ⟨vA, YA⟩ := yA
            simp only at hS hA
            go_wp2_with (first
              | ((go_at_call 53; (with_reducible refine (hone).mono ?_); rintro e w1 ⟨rfl, hr1, k1, s1⟩); have H1 := Lib.hid (hr1.alloc (.cells #[.int .i64 (op : Int), .int .i64 0, .int .i64 0, .int .i64 0, .int .i64 0] 91)); have hs1 := k1.size; have hgx : w1.heap.size ≠ w.heap.size + 1 := (by omega); have hpx : w.heap.size + 2 ≠ w1.heap.size := (by omega); clear hr1 s1)
              | (go_at_call 54; (with_reducible refine (hhas _).mono ?_); rintro e w2 ⟨rfl, rfl⟩)
              | ((go_at_call 52; (with_reducible refine (hbd _ H1.out).mono ?_); rintro e w2 ⟨rfl, hr2, k2, s2⟩); have hx2 := Blk.keep (F := (· = w.heap.size + 1)) (w' := w2) (g := w1.heap.size) (t := 91) (cs := [.int .i64 (op : Int), .int .i64 0, .int .i64 0, .int .i64 0, .int .i64 0]) (by (repeat' (first | (with_reducible assumption) | (with_reducible refine Blk.top _ (by first | rfl | omega | (simp; done) | (simp; omega)) rfl) | (with_reducible refine Blk.alloc ?_ _) | (with_reducible refine Blk.drew ?_) | (with_reducible refine Blk.drewN ?_ _) | (with_reducible refine Blk.far ?_ (by first | omega | (simp; done) | (simp; omega)) _)))) k2 hgx; have H2 := Lib.hid hr2; clear hr2 s2)
              | ((go_at_call 48; (with_reducible refine (hA _ H2.out).mono ?_); rintro e w3 ⟨rfl, hr3, k3, s3⟩); have hx3 := Blk.keep (F := (· = w.heap.size + 1)) (w' := w3) (hx2) k3 hgx; have fx3 := hx3.frozen; obtain ⟨x30, x31, x32, x33, x34⟩ := blkc5 hx3; have xl3 := hx3.lt; have H3 := Lib.hid hr3; have D3 := Lib.hid (hX.out.rdr' (((k1.alloc _).trans k2 (fun _ _ e => e)).trans k3 (fun _ _ e => e)) hr3); obtain ⟨p30, p31, p32, p33, p34⟩ := D3.out.pcells; have fp3 := D3.out.prog.frozen; have lp3 := D3.out.prog.lt; have HD := Lib.hid (hX.out.rdr' ((((k1.alloc _).trans k2 (fun _ _ e => e)).trans k3 (fun _ _ e => e)).setFresh hs1 1 (.int .i64 (vA : Int))) (hr3.setFar (by omega) hgx 1 (.int .i64 (vA : Int)))); have sD := HD.out.rdr.1.size; have sE : wr.heap.size ≤ w3.heap.size := (by have := ((((k1.alloc _).trans k2 (fun _ _ e => e)).trans k3 (fun _ _ e => e))).size; exact this); clear hr3 s3)
              | (at_builtin; refine wpList_appS rfl rfl elemIns insE_one (s := .tmp 91) (N := m + 1) (L := (J m).1 ++ [(⟨((op : Nat) : Int), ((vA : Nat) : Int), 0, 0, 0⟩ : Ins)]) rfl (HD.out.code.below (b := (w3.setCell ⟨w1.heap.size, 1, none⟩ (.int .i64 (vA : Int))).heap.size) (by (repeat' (first | (with_reducible exact Below.refl _ _) | (with_reducible assumption) | (with_reducible refine Below.drew ?_) | (with_reducible refine below_drewN ?_ _) | (with_reducible refine Below.alloc ?_ ?_ _) | (with_reducible refine Below.setCell ?_ ?_ _) | omega | (simp; done) | (simp; omega)))) (by first | omega | (simp; done) | (simp; omega))) rfl (k := [(⟨((op : Nat) : Int), ((vA : Nat) : Int), 0, 0, 0⟩ : Ins)]) (RdS.of_block (l := [(⟨((op : Nat) : Int), ((vA : Nat) : Int), 0, 0, 0⟩ : Ins)]) (heap_top _ _ (by simp)) insE_len rfl) rfl rfl (by unfold maxLen; omega) (by omega) (by first | omega | (simp; done) | (simp; omega)) ?_; intro A6 c6 w6 hown6 hg6 hat6 hb6; have hp6 := HD.out.instrP hg6; obtain ⟨p60, p61, p62, p63, p64⟩ := blkc5 hp6; have f6 := hp6.frozen; have l6 := hp6.lt)
              | fail "no arm")
            go_roundw
            case rel => exact ⟨m + 1, A6, c6, by omega, by go_num, by rw [hS.out]; exact HD.out.instr hg6 hown6⟩
            case measure => simp [intOf]; omega
          · have hhas : ∀ w, Calls Try.prog 54 #[.int .i64 ((rByte S).1 : Nat)] w fun e w' => e = .returned (.tuple #[.int .i64 1, .bool true]) ∧ w = w' := fun w => by
              have := has_any ((rByte S).1 : Nat) w
              rw [show hasN ((rByte S).1 : Nat) = 1 from by unfold hasN; rw [hc]; rfl, show hasK ((rByte S).1 : Nat) = true from by unfold hasK; rw [hc]; rfl] at this
              exact this
            rw [rInstr_1 hc] at hS
            have hA := fun wr h => refrshort_any w (w.heap.size + 1) (rByte S).2 0 9223372036854775807 0 9223372036854775807 rfl rfl wr h
            have hK := fun wr h => refrzig_any w (w.heap.size + 1) (rShort 0 9223372036854775807 (rByte S).2).2 wr h
            clear hc
            generalize rByte S = Y at *
            obtain ⟨op, Y⟩ := Y
            simp only at hS hone hhas hA hK
            generalize rShort 0 9223372036854775807 Y = yA at *
            obtain ⟨vA, YA⟩ := yA
            simp only at hS hA hK
            generalize rZig YA = yK at *
            obtain ⟨vK, YK⟩ := yK
            simp only at hS hK
            go_wp2_with (first
              | ((go_at_call 53; (with_reducible refine (hone).mono ?_); rintro e w1 ⟨rfl, hr1, k1, s1⟩); have H1 := Lib.hid (hr1.alloc (.cells #[.int .i64 (op : Int), .int .i64 0, .int .i64 0, .int .i64 0, .int .i64 0] 91)); have hs1 := k1.size; have hgx : w1.heap.size ≠ w.heap.size + 1 := (by omega); have hpx : w.heap.size + 2 ≠ w1.heap.size := (by omega); clear hr1 s1)
              | (go_at_call 54; (with_reducible refine (hhas _).mono ?_); rintro e w2 ⟨rfl, rfl⟩)
              | ((go_at_call 48; (with_reducible refine (hA _ H1.out).mono ?_); rintro e w3 ⟨rfl, hr3, k3, s3⟩); have hx3 := Blk.keep (F := (· = w.heap.size + 1)) (w' := w3) (g := w1.heap.size) (t := 91) (cs := [.int .i64 (op : Int), .int .i64 0, .int .i64 0, .int .i64 0, .int .i64 0]) (by (repeat' (first | (with_reducible assumption) | (with_reducible refine Blk.top _ (by first | rfl | omega | (simp; done) | (simp; omega)) rfl) | (with_reducible refine Blk.alloc ?_ _) | (with_reducible refine Blk.drew ?_) | (with_reducible refine Blk.drewN ?_ _) | (with_reducible refine Blk.far ?_ (by first | omega | (simp; done) | (simp; omega)) _)))) k3 hgx; have fx3 := hx3.frozen; obtain ⟨x30, x31, x32, x33, x34⟩ := blkc5 hx3; have xl3 := hx3.lt; have H3 := Lib.hid hr3; clear hr3 s3)
              | ((go_at_call 50; (with_reducible refine (hK _ (H3.out.setFar (by omega) hgx 1 (.int .i64 (vA : Int)))).mono ?_); rintro e w4 ⟨rfl, hr4, k4⟩); have hx4 := Blk.keep (F := (· = w.heap.size + 1)) (w' := w4) (hx3.set_ 1 (.int .i64 (vA : Int))) k4 hgx; have fx4 := hx4.frozen; obtain ⟨x40, x41, x42, x43, x44⟩ := blkc5 hx4; have xl4 := hx4.lt; have H4 := Lib.hid hr4; have D4 := Lib.hid (hX.out.rdr' ((((k1.alloc _).trans k3 (fun _ _ e => e)).setFresh hs1 1 (.int .i64 (vA : Int))).trans k4 (fun _ _ e => e)) hr4); obtain ⟨p40, p41, p42, p43, p44⟩ := D4.out.pcells; have fp4 := D4.out.prog.frozen; have lp4 := D4.out.prog.lt; have HD := Lib.hid (hX.out.rdr' (((((k1.alloc _).trans k3 (fun _ _ e => e)).setFresh hs1 1 (.int .i64 (vA : Int))).trans k4 (fun _ _ e => e)).setFresh hs1 4 (.int .i64 vK)) (hr4.setFar (by omega) hgx 4 (.int .i64 vK))); have sD := HD.out.rdr.1.size; have sE : wr.heap.size ≤ w4.heap.size := (by have := (((((k1.alloc _).trans k3 (fun _ _ e => e)).setFresh hs1 1 (.int .i64 (vA : Int))).trans k4 (fun _ _ e => e))).size; exact this); clear hr4)
              | (at_builtin; refine wpList_appS rfl rfl elemIns insE_one (s := .tmp 91) (N := m + 1) (L := (J m).1 ++ [(⟨((op : Nat) : Int), ((vA : Nat) : Int), 0, 0, vK⟩ : Ins)]) rfl (HD.out.code.below (b := (w4.setCell ⟨w1.heap.size, 4, none⟩ (.int .i64 vK)).heap.size) (by (repeat' (first | (with_reducible exact Below.refl _ _) | (with_reducible assumption) | (with_reducible refine Below.drew ?_) | (with_reducible refine below_drewN ?_ _) | (with_reducible refine Below.alloc ?_ ?_ _) | (with_reducible refine Below.setCell ?_ ?_ _) | omega | (simp; done) | (simp; omega)))) (by first | omega | (simp; done) | (simp; omega))) rfl (k := [(⟨((op : Nat) : Int), ((vA : Nat) : Int), 0, 0, vK⟩ : Ins)]) (RdS.of_block (l := [(⟨((op : Nat) : Int), ((vA : Nat) : Int), 0, 0, vK⟩ : Ins)]) (heap_top _ _ (by simp)) insE_len rfl) rfl rfl (by unfold maxLen; omega) (by omega) (by first | omega | (simp; done) | (simp; omega)) ?_; intro A6 c6 w6 hown6 hg6 hat6 hb6; have hp6 := HD.out.instrP hg6; obtain ⟨p60, p61, p62, p63, p64⟩ := blkc5 hp6; have f6 := hp6.frozen; have l6 := hp6.lt)
              | fail "no arm")
            go_roundw
            case rel => exact ⟨m + 1, A6, c6, by omega, by go_num, by rw [hS.out]; exact HD.out.instr hg6 hown6⟩
            case measure => simp [intOf]; omega
          · have hhas : ∀ w, Calls Try.prog 54 #[.int .i64 ((rByte S).1 : Nat)] w fun e w' => e = .returned (.tuple #[.int .i64 2, .bool false]) ∧ w = w' := fun w => by
              have := has_any ((rByte S).1 : Nat) w
              rw [show hasN ((rByte S).1 : Nat) = 2 from by unfold hasN; rw [hc]; rfl, show hasK ((rByte S).1 : Nat) = false from by unfold hasK; rw [hc]; rfl] at this
              exact this
            rw [rInstr_2 hc] at hS
            have hA := fun wr h => refrshort_any w (w.heap.size + 1) (rByte S).2 0 9223372036854775807 0 9223372036854775807 rfl rfl wr h
            have hB := fun wr h => refrshort_any w (w.heap.size + 1) (rShort 0 9223372036854775807 (rByte S).2).2 0 9223372036854775807 0 9223372036854775807 rfl rfl wr h
            clear hc
            generalize rByte S = Y at *
            obtain ⟨op, Y⟩ := Y
            simp only at hS hone hhas hA hB
            generalize rShort 0 9223372036854775807 Y = yA at *
            obtain ⟨vA, YA⟩ := yA
            simp only at hS hA hB
            generalize rShort 0 9223372036854775807 YA = yB at *
            obtain ⟨vB, YB⟩ := yB
            simp only at hS hB
            go_wp2_with (first
              | ((go_at_call 53; (with_reducible refine (hone).mono ?_); rintro e w1 ⟨rfl, hr1, k1, s1⟩); have H1 := Lib.hid (hr1.alloc (.cells #[.int .i64 (op : Int), .int .i64 0, .int .i64 0, .int .i64 0, .int .i64 0] 91)); have hs1 := k1.size; have hgx : w1.heap.size ≠ w.heap.size + 1 := (by omega); have hpx : w.heap.size + 2 ≠ w1.heap.size := (by omega); clear hr1 s1)
              | (go_at_call 54; (with_reducible refine (hhas _).mono ?_); rintro e w2 ⟨rfl, rfl⟩)
              | ((go_at_call 48; (with_reducible refine (hA _ H1.out).mono ?_); rintro e w3 ⟨rfl, hr3, k3, s3⟩); have hx3 := Blk.keep (F := (· = w.heap.size + 1)) (w' := w3) (g := w1.heap.size) (t := 91) (cs := [.int .i64 (op : Int), .int .i64 0, .int .i64 0, .int .i64 0, .int .i64 0]) (by (repeat' (first | (with_reducible assumption) | (with_reducible refine Blk.top _ (by first | rfl | omega | (simp; done) | (simp; omega)) rfl) | (with_reducible refine Blk.alloc ?_ _) | (with_reducible refine Blk.drew ?_) | (with_reducible refine Blk.drewN ?_ _) | (with_reducible refine Blk.far ?_ (by first | omega | (simp; done) | (simp; omega)) _)))) k3 hgx; have fx3 := hx3.frozen; obtain ⟨x30, x31, x32, x33, x34⟩ := blkc5 hx3; have xl3 := hx3.lt; have H3 := Lib.hid hr3; clear hr3 s3)
              | ((go_at_call 48; (with_reducible refine (hB _ (H3.out.setFar (by omega) hgx 1 (.int .i64 (vA : Int)))).mono ?_); rintro e w4 ⟨rfl, hr4, k4, s4⟩); have hx4 := Blk.keep (F := (· = w.heap.size + 1)) (w' := w4) (hx3.set_ 1 (.int .i64 (vA : Int))) k4 hgx; have fx4 := hx4.frozen; obtain ⟨x40, x41, x42, x43, x44⟩ := blkc5 hx4; have xl4 := hx4.lt; have H4 := Lib.hid hr4; have D4 := Lib.hid (hX.out.rdr' ((((k1.alloc _).trans k3 (fun _ _ e => e)).setFresh hs1 1 (.int .i64 (vA : Int))).trans k4 (fun _ _ e => e)) hr4); obtain ⟨p40, p41, p42, p43, p44⟩ := D4.out.pcells; have fp4 := D4.out.prog.frozen; have lp4 := D4.out.prog.lt; have HD := Lib.hid (hX.out.rdr' (((((k1.alloc _).trans k3 (fun _ _ e => e)).setFresh hs1 1 (.int .i64 (vA : Int))).trans k4 (fun _ _ e => e)).setFresh hs1 2 (.int .i64 (vB : Int))) (hr4.setFar (by omega) hgx 2 (.int .i64 (vB : Int)))); have sD := HD.out.rdr.1.size; have sE : wr.heap.size ≤ w4.heap.size := (by have := (((((k1.alloc _).trans k3 (fun _ _ e => e)).setFresh hs1 1 (.int .i64 (vA : Int))).trans k4 (fun _ _ e => e))).size; exact this); clear hr4 s4)
              | (at_builtin; refine wpList_appS rfl rfl elemIns insE_one (s := .tmp 91) (N := m + 1) (L := (J m).1 ++ [(⟨((op : Nat) : Int), ((vA : Nat) : Int), ((vB : Nat) : Int), 0, 0⟩ : Ins)]) rfl (HD.out.code.below (b := (w4.setCell ⟨w1.heap.size, 2, none⟩ (.int .i64 (vB : Int))).heap.size) (by (repeat' (first | (with_reducible exact Below.refl _ _) | (with_reducible assumption) | (with_reducible refine Below.drew ?_) | (with_reducible refine below_drewN ?_ _) | (with_reducible refine Below.alloc ?_ ?_ _) | (with_reducible refine Below.setCell ?_ ?_ _) | omega | (simp; done) | (simp; omega)))) (by first | omega | (simp; done) | (simp; omega))) rfl (k := [(⟨((op : Nat) : Int), ((vA : Nat) : Int), ((vB : Nat) : Int), 0, 0⟩ : Ins)]) (RdS.of_block (l := [(⟨((op : Nat) : Int), ((vA : Nat) : Int), ((vB : Nat) : Int), 0, 0⟩ : Ins)]) (heap_top _ _ (by simp)) insE_len rfl) rfl rfl (by unfold maxLen; omega) (by omega) (by first | omega | (simp; done) | (simp; omega)) ?_; intro A6 c6 w6 hown6 hg6 hat6 hb6; have hp6 := HD.out.instrP hg6; obtain ⟨p60, p61, p62, p63, p64⟩ := blkc5 hp6; have f6 := hp6.frozen; have l6 := hp6.lt)
              | fail "no arm")
            go_roundw
            case rel => exact ⟨m + 1, A6, c6, by omega, by go_num, by rw [hS.out]; exact HD.out.instr hg6 hown6⟩
            case measure => simp [intOf]; omega
          · have hhas : ∀ w, Calls Try.prog 54 #[.int .i64 ((rByte S).1 : Nat)] w fun e w' => e = .returned (.tuple #[.int .i64 3, .bool false]) ∧ w = w' := fun w => by
              have := has_any ((rByte S).1 : Nat) w
              rw [show hasN ((rByte S).1 : Nat) = 3 from by unfold hasN; rw [hc]; rfl, show hasK ((rByte S).1 : Nat) = false from by unfold hasK; rw [hc]; rfl] at this
              exact this
            rw [rInstr_3 hc] at hS
            have hA := fun wr h => refrshort_any w (w.heap.size + 1) (rByte S).2 0 9223372036854775807 0 9223372036854775807 rfl rfl wr h
            have hB := fun wr h => refrshort_any w (w.heap.size + 1) (rShort 0 9223372036854775807 (rByte S).2).2 0 9223372036854775807 0 9223372036854775807 rfl rfl wr h
            have hC := fun wr h => refrshort_any w (w.heap.size + 1) (rShort 0 9223372036854775807 (rShort 0 9223372036854775807 (rByte S).2).2).2 0 9223372036854775807 0 9223372036854775807 rfl rfl wr h
            clear hc
            generalize rByte S = Y at *
            obtain ⟨op, Y⟩ := Y
            simp only at hS hone hhas hA hB hC
            generalize rShort 0 9223372036854775807 Y = yA at *
            obtain ⟨vA, YA⟩ := yA
            simp only at hS hA hB hC
            generalize rShort 0 9223372036854775807 YA = yB at *
            obtain ⟨vB, YB⟩ := yB
            simp only at hS hB hC
            generalize rShort 0 9223372036854775807 YB = yC at *
            obtain ⟨vC, YC⟩ := yC
            simp only at hS hC
            go_wp2_with (first
              | ((go_at_call 53; (with_reducible refine (hone).mono ?_); rintro e w1 ⟨rfl, hr1, k1, s1⟩); have H1 := Lib.hid (hr1.alloc (.cells #[.int .i64 (op : Int), .int .i64 0, .int .i64 0, .int .i64 0, .int .i64 0] 91)); have hs1 := k1.size; have hgx : w1.heap.size ≠ w.heap.size + 1 := (by omega); have hpx : w.heap.size + 2 ≠ w1.heap.size := (by omega); clear hr1 s1)
              | (go_at_call 54; (with_reducible refine (hhas _).mono ?_); rintro e w2 ⟨rfl, rfl⟩)
              | ((go_at_call 48; (with_reducible refine (hA _ H1.out).mono ?_); rintro e w3 ⟨rfl, hr3, k3, s3⟩); have hx3 := Blk.keep (F := (· = w.heap.size + 1)) (w' := w3) (g := w1.heap.size) (t := 91) (cs := [.int .i64 (op : Int), .int .i64 0, .int .i64 0, .int .i64 0, .int .i64 0]) (by (repeat' (first | (with_reducible assumption) | (with_reducible refine Blk.top _ (by first | rfl | omega | (simp; done) | (simp; omega)) rfl) | (with_reducible refine Blk.alloc ?_ _) | (with_reducible refine Blk.drew ?_) | (with_reducible refine Blk.drewN ?_ _) | (with_reducible refine Blk.far ?_ (by first | omega | (simp; done) | (simp; omega)) _)))) k3 hgx; have fx3 := hx3.frozen; obtain ⟨x30, x31, x32, x33, x34⟩ := blkc5 hx3; have xl3 := hx3.lt; have H3 := Lib.hid hr3; clear hr3 s3)
              | ((go_at_call 48; (with_reducible refine (hB _ (H3.out.setFar (by omega) hgx 1 (.int .i64 (vA : Int)))).mono ?_); rintro e w4 ⟨rfl, hr4, k4, s4⟩); have hx4 := Blk.keep (F := (· = w.heap.size + 1)) (w' := w4) (hx3.set_ 1 (.int .i64 (vA : Int))) k4 hgx; have fx4 := hx4.frozen; obtain ⟨x40, x41, x42, x43, x44⟩ := blkc5 hx4; have xl4 := hx4.lt; have H4 := Lib.hid hr4; clear hr4 s4)
              | ((go_at_call 48; (with_reducible refine (hC _ (H4.out.setFar (by omega) hgx 2 (.int .i64 (vB : Int)))).mono ?_); rintro e w5 ⟨rfl, hr5, k5, s5⟩); have hx5 := Blk.keep (F := (· = w.heap.size + 1)) (w' := w5) (hx4.set_ 2 (.int .i64 (vB : Int))) k5 hgx; have fx5 := hx5.frozen; obtain ⟨x50, x51, x52, x53, x54⟩ := blkc5 hx5; have xl5 := hx5.lt; have H5 := Lib.hid hr5; have D5 := Lib.hid (hX.out.rdr' ((((((k1.alloc _).trans k3 (fun _ _ e => e)).setFresh hs1 1 (.int .i64 (vA : Int))).trans k4 (fun _ _ e => e)).setFresh hs1 2 (.int .i64 (vB : Int))).trans k5 (fun _ _ e => e)) hr5); obtain ⟨p50, p51, p52, p53, p54⟩ := D5.out.pcells; have fp5 := D5.out.prog.frozen; have lp5 := D5.out.prog.lt; have HD := Lib.hid (hX.out.rdr' (((((((k1.alloc _).trans k3 (fun _ _ e => e)).setFresh hs1 1 (.int .i64 (vA : Int))).trans k4 (fun _ _ e => e)).setFresh hs1 2 (.int .i64 (vB : Int))).trans k5 (fun _ _ e => e)).setFresh hs1 3 (.int .i64 (vC : Int))) (hr5.setFar (by omega) hgx 3 (.int .i64 (vC : Int)))); have sD := HD.out.rdr.1.size; have sE : wr.heap.size ≤ w5.heap.size := (by have := (((((((k1.alloc _).trans k3 (fun _ _ e => e)).setFresh hs1 1 (.int .i64 (vA : Int))).trans k4 (fun _ _ e => e)).setFresh hs1 2 (.int .i64 (vB : Int))).trans k5 (fun _ _ e => e))).size; exact this); clear hr5 s5)
              | (at_builtin; refine wpList_appS rfl rfl elemIns insE_one (s := .tmp 91) (N := m + 1) (L := (J m).1 ++ [(⟨((op : Nat) : Int), ((vA : Nat) : Int), ((vB : Nat) : Int), ((vC : Nat) : Int), 0⟩ : Ins)]) rfl (HD.out.code.below (b := (w5.setCell ⟨w1.heap.size, 3, none⟩ (.int .i64 (vC : Int))).heap.size) (by (repeat' (first | (with_reducible exact Below.refl _ _) | (with_reducible assumption) | (with_reducible refine Below.drew ?_) | (with_reducible refine below_drewN ?_ _) | (with_reducible refine Below.alloc ?_ ?_ _) | (with_reducible refine Below.setCell ?_ ?_ _) | omega | (simp; done) | (simp; omega)))) (by first | omega | (simp; done) | (simp; omega))) rfl (k := [(⟨((op : Nat) : Int), ((vA : Nat) : Int), ((vB : Nat) : Int), ((vC : Nat) : Int), 0⟩ : Ins)]) (RdS.of_block (l := [(⟨((op : Nat) : Int), ((vA : Nat) : Int), ((vB : Nat) : Int), ((vC : Nat) : Int), 0⟩ : Ins)]) (heap_top _ _ (by simp)) insE_len rfl) rfl rfl (by unfold maxLen; omega) (by omega) (by first | omega | (simp; done) | (simp; omega)) ?_; intro A6 c6 w6 hown6 hg6 hat6 hb6; have hp6 := HD.out.instrP hg6; obtain ⟨p60, p61, p62, p63, p64⟩ := blkc5 hp6; have f6 := hp6.frozen; have l6 := hp6.lt)
              | fail "no arm")
            go_roundw
            case rel => exact ⟨m + 1, A6, c6, by omega, by go_num, by rw [hS.out]; exact HD.out.instr hg6 hown6⟩
            case measure => simp [intOf]; omega
          · have hhas : ∀ w, Calls Try.prog 54 #[.int .i64 ((rByte S).1 : Nat)] w fun e w' => e = .returned (.tuple #[.int .i64 3, .bool true]) ∧ w = w' := fun w => by
              have := has_any ((rByte S).1 : Nat) w
              rw [show hasN ((rByte S).1 : Nat) = 3 from by unfold hasN; rw [hc]; rfl, show hasK ((rByte S).1 : Nat) = true from by unfold hasK; rw [hc]; rfl] at this
              exact this
            rw [rInstr_4 hc] at hS
            have hA := fun wr h => refrshort_any w (w.heap.size + 1) (rByte S).2 0 9223372036854775807 0 9223372036854775807 rfl rfl wr h
            have hB := fun wr h => refrshort_any w (w.heap.size + 1) (rShort 0 9223372036854775807 (rByte S).2).2 0 9223372036854775807 0 9223372036854775807 rfl rfl wr h
            have hC := fun wr h => refrshort_any w (w.heap.size + 1) (rShort 0 9223372036854775807 (rShort 0 9223372036854775807 (rByte S).2).2).2 0 9223372036854775807 0 9223372036854775807 rfl rfl wr h
            have hK := fun wr h => refrzig_any w (w.heap.size + 1) (rShort 0 9223372036854775807 (rShort 0 9223372036854775807 (rShort 0 9223372036854775807 (rByte S).2).2).2).2 wr h
            clear hc
            generalize rByte S = Y at *
            obtain ⟨op, Y⟩ := Y
            simp only at hS hone hhas hA hB hC hK
            generalize rShort 0 9223372036854775807 Y = yA at *
            obtain ⟨vA, YA⟩ := yA
            simp only at hS hA hB hC hK
            generalize rShort 0 9223372036854775807 YA = yB at *
            obtain ⟨vB, YB⟩ := yB
            simp only at hS hB hC hK
            generalize rShort 0 9223372036854775807 YB = yC at *
            obtain ⟨vC, YC⟩ := yC
            simp only at hS hC hK
            generalize rZig YC = yK at *
            obtain ⟨vK, YK⟩ := yK
            simp only at hS hK
            go_wp2_with (first
              | ((go_at_call 53; (with_reducible refine (hone).mono ?_); rintro e w1 ⟨rfl, hr1, k1, s1⟩); have H1 := Lib.hid (hr1.alloc (.cells #[.int .i64 (op : Int), .int .i64 0, .int .i64 0, .int .i64 0, .int .i64 0] 91)); have hs1 := k1.size; have hgx : w1.heap.size ≠ w.heap.size + 1 := (by omega); have hpx : w.heap.size + 2 ≠ w1.heap.size := (by omega); clear hr1 s1)
              | (go_at_call 54; (with_reducible refine (hhas _).mono ?_); rintro e w2 ⟨rfl, rfl⟩)
              | ((go_at_call 48; (with_reducible refine (hA _ H1.out).mono ?_); rintro e w3 ⟨rfl, hr3, k3, s3⟩); have hx3 := Blk.keep (F := (· = w.heap.size + 1)) (w' := w3) (g := w1.heap.size) (t := 91) (cs := [.int .i64 (op : Int), .int .i64 0, .int .i64 0, .int .i64 0, .int .i64 0]) (by (repeat' (first | (with_reducible assumption) | (with_reducible refine Blk.top _ (by first | rfl | omega | (simp; done) | (simp; omega)) rfl) | (with_reducible refine Blk.alloc ?_ _) | (with_reducible refine Blk.drew ?_) | (with_reducible refine Blk.drewN ?_ _) | (with_reducible refine Blk.far ?_ (by first | omega | (simp; done) | (simp; omega)) _)))) k3 hgx; have fx3 := hx3.frozen; obtain ⟨x30, x31, x32, x33, x34⟩ := blkc5 hx3; have xl3 := hx3.lt; have H3 := Lib.hid hr3; clear hr3 s3)
              | ((go_at_call 48; (with_reducible refine (hB _ (H3.out.setFar (by omega) hgx 1 (.int .i64 (vA : Int)))).mono ?_); rintro e w4 ⟨rfl, hr4, k4, s4⟩); have hx4 := Blk.keep (F := (· = w.heap.size + 1)) (w' := w4) (hx3.set_ 1 (.int .i64 (vA : Int))) k4 hgx; have fx4 := hx4.frozen; obtain ⟨x40, x41, x42, x43, x44⟩ := blkc5 hx4; have xl4 := hx4.lt; have H4 := Lib.hid hr4; clear hr4 s4)
              | ((go_at_call 48; (with_reducible refine (hC _ (H4.out.setFar (by omega) hgx 2 (.int .i64 (vB : Int)))).mono ?_); rintro e w5 ⟨rfl, hr5, k5, s5⟩); have hx5 := Blk.keep (F := (· = w.heap.size + 1)) (w' := w5) (hx4.set_ 2 (.int .i64 (vB : Int))) k5 hgx; have fx5 := hx5.frozen; obtain ⟨x50, x51, x52, x53, x54⟩ := blkc5 hx5; have xl5 := hx5.lt; have H5 := Lib.hid hr5; clear hr5 s5)
              | ((go_at_call 50; (with_reducible refine (hK _ (H5.out.setFar (by omega) hgx 3 (.int .i64 (vC : Int)))).mono ?_); rintro e w6 ⟨rfl, hr6, k6⟩); have hx6 := Blk.keep (F := (· = w.heap.size + 1)) (w' := w6) (hx5.set_ 3 (.int .i64 (vC : Int))) k6 hgx; have fx6 := hx6.frozen; obtain ⟨x60, x61, x62, x63, x64⟩ := blkc5 hx6; have xl6 := hx6.lt; have H6 := Lib.hid hr6; have D6 := Lib.hid (hX.out.rdr' ((((((((k1.alloc _).trans k3 (fun _ _ e => e)).setFresh hs1 1 (.int .i64 (vA : Int))).trans k4 (fun _ _ e => e)).setFresh hs1 2 (.int .i64 (vB : Int))).trans k5 (fun _ _ e => e)).setFresh hs1 3 (.int .i64 (vC : Int))).trans k6 (fun _ _ e => e)) hr6); obtain ⟨p60, p61, p62, p63, p64⟩ := D6.out.pcells; have fp6 := D6.out.prog.frozen; have lp6 := D6.out.prog.lt; have HD := Lib.hid (hX.out.rdr' (((((((((k1.alloc _).trans k3 (fun _ _ e => e)).setFresh hs1 1 (.int .i64 (vA : Int))).trans k4 (fun _ _ e => e)).setFresh hs1 2 (.int .i64 (vB : Int))).trans k5 (fun _ _ e => e)).setFresh hs1 3 (.int .i64 (vC : Int))).trans k6 (fun _ _ e => e)).setFresh hs1 4 (.int .i64 vK)) (hr6.setFar (by omega) hgx 4 (.int .i64 vK))); have sD := HD.out.rdr.1.size; have sE : wr.heap.size ≤ w6.heap.size := (by have := (((((((((k1.alloc _).trans k3 (fun _ _ e => e)).setFresh hs1 1 (.int .i64 (vA : Int))).trans k4 (fun _ _ e => e)).setFresh hs1 2 (.int .i64 (vB : Int))).trans k5 (fun _ _ e => e)).setFresh hs1 3 (.int .i64 (vC : Int))).trans k6 (fun _ _ e => e))).size; exact this); clear hr6)
              | (at_builtin; refine wpList_appS rfl rfl elemIns insE_one (s := .tmp 91) (N := m + 1) (L := (J m).1 ++ [(⟨((op : Nat) : Int), ((vA : Nat) : Int), ((vB : Nat) : Int), ((vC : Nat) : Int), vK⟩ : Ins)]) rfl (HD.out.code.below (b := (w6.setCell ⟨w1.heap.size, 4, none⟩ (.int .i64 vK)).heap.size) (by (repeat' (first | (with_reducible exact Below.refl _ _) | (with_reducible assumption) | (with_reducible refine Below.drew ?_) | (with_reducible refine below_drewN ?_ _) | (with_reducible refine Below.alloc ?_ ?_ _) | (with_reducible refine Below.setCell ?_ ?_ _) | omega | (simp; done) | (simp; omega)))) (by first | omega | (simp; done) | (simp; omega))) rfl (k := [(⟨((op : Nat) : Int), ((vA : Nat) : Int), ((vB : Nat) : Int), ((vC : Nat) : Int), vK⟩ : Ins)]) (RdS.of_block (l := [(⟨((op : Nat) : Int), ((vA : Nat) : Int), ((vB : Nat) : Int), ((vC : Nat) : Int), vK⟩ : Ins)]) (heap_top _ _ (by simp)) insE_len rfl) rfl rfl (by unfold maxLen; omega) (by omega) (by first | omega | (simp; done) | (simp; omega)) ?_; intro A6 c6 w6 hown6 hg6 hat6 hb6; have hp6 := HD.out.instrP hg6; obtain ⟨p60, p61, p62, p63, p64⟩ := blkc5 hp6; have f6 := hp6.frozen; have l6 := hp6.lt)
              | fail "no arm")
            go_roundw
            case rel => exact ⟨m + 1, A6, c6, by omega, by go_num, by rw [hS.out]; exact HD.out.instr hg6 hown6⟩
            case measure => simp [intOf]; omega
        · have hm9 : m = M1 := by omega
          subst hm9
          have hX := Lib.hid hx
          have hbd := fun wr h => refbad_any w (w.heap.size + 1) (J m).2 12 12 rfl wr h
          rw [badS_need] at hbd
          obtain ⟨b1, g1, A1, n1, c1', i1, bs1, x1, r1, i1n, dr1, l1, m1⟩ := id hx.rdr
          have e0 : wr.cell? ⟨w.heap.size + 1, 0, none⟩ = some (.slice A1 n1 c1') := x1.cell 0
          have e1 : wr.cell? ⟨w.heap.size + 1, 1, none⟩ = some (.int .i64 ((i1 : Nat) : Int)) := x1.cell 1
          have e2 : wr.cell? ⟨w.heap.size + 1, 2, none⟩ = some (.int .i64 ((J m).2.2 : Int)) := x1.cell 2
          have hlen : (J m).2.1.length = n1 - i1 := by rw [← dr1, List.length_drop, r1.1]
          rw [hlen] at HE
          clear hx x1 r1 dr1 hlen jS j0 q7
          unfold maxLen at m1
          have hn1 : n1 ≤ 9223372036854775807 := by omega
          by_cases hin : i1 = n1
          · subst hin
            rw [show decide (i1 - i1 = 0) = true from by simp, needS_true] at HE
            clear hbd
            rw [← HE.out] at hX e2
            clear HE
            by_cases he : E.2 = 0
            · have He := Lib.hid he
              rw [he] at e2
              clear he
              obtain ⟨p80, p81, p82, p83, p84⟩ := hX.out.pcells
              obtain ⟨q80, q81, q82, q83, q84⟩ := hX.out.rcells
              have f8 := hX.out.res.frozen
              have l8' := hX.out.res.lt
              have ne8 := hX.out.ne.1
              go_wp2
              go_big_quiet (fail)
              go_wp2
              refine bodyPost_ret (v := .tuple #[.agg #[.slice B1 nI d1, .slice B2 nO d2, .int .i64 (R.1 : Nat), .slice B k d, .slice D m f], .int .i64 0]) (by simp [results, Try.results18, go_sem , q80, q81, q82, q83, q84, l8']) rfl ?_
              exact rdecPost_ok E.2 He.out (hX.out.drewN nq) ((((((Keep.refl (· = w.heap.size) _).set_ _ rfl).set_ _ rfl).set_ _ rfl).set_ _ rfl).set_ _ rfl)
            · have hne : (((E.2 : Nat) : Int) != 0) = true := by rw [bne_iff_ne]; omega
              have Hne := Lib.hid he
              clear he
              obtain ⟨q80, q81, q82, q83, q84⟩ := hX.out.rcells
              have f8 := hX.out.res.frozen
              have l8' := hX.out.res.lt
              go_wp2
              go_big_quiet (fail)
              go_wp2
              go_region_held3 (fun w' => w'.cell? ⟨w.heap.size + 1, 2, none⟩ = some (.int .i64 (E.2 : Int))) (go_keep) (fail)
              all_goals
                go_wp2
                refine bodyPost_ret (v := .tuple #[.agg #[.slice none 0 0, .slice none 0 0, .int .i64 0, .slice none 0 0, .slice none 0 0], .int .i64 (E.2 : Nat)]) (by simp [results, Try.results18, go_sem , q80, q81, q82, q83, q84, l8']) rfl ?_
                exact rdecPost_no E.2 Hne.out (hX.out.drewN nq) (Keep.drew' ((((((Keep.refl (· = w.heap.size) _).set_ _ rfl).set_ _ rfl).set_ _ rfl).set_ _ rfl).set_ _ rfl))
          · rw [show decide (n1 - i1 = 0) = false from decide_eq_false (by omega)] at HE
            have hin' : i1 < n1 := by omega
            rw [← HE.out] at hbd
            clear HE
            by_cases he : E.2 = 0
            · have He := Lib.hid he
              clear he
              go_wp2
              go_big_quiet (fail)
              go_wp2_with (first
                | ((go_at_call 52; (with_reducible refine (hbd _ (hX.out.drewN _).rdr).mono ?_); rintro e w8 ⟨rfl, hr8, k8, s8⟩); have H8 := Lib.hid ((hX.out.drewN _).rdr' k8 hr8); obtain ⟨b8, g8, A8, n8, c8, i8, bs8, x8, r8, i8n, dr8, l8, m8⟩ := hr8; have d8 : w8.cell? ⟨w.heap.size + 1, 2, none⟩ = some (.int .i64 (0 : Int)) := (by have := x8.cell 2; rw [He.out] at this; exact this); obtain ⟨p80, p81, p82, p83, p84⟩ := H8.out.pcells; obtain ⟨q80, q81, q82, q83, q84⟩ := H8.out.rcells; have f8 := H8.out.res.frozen; have l8' := H8.out.res.lt; have ne8 := H8.out.ne.1; clear x8 r8 s8 dr8)
                | fail "no arm")
              refine bodyPost_ret (v := .tuple #[.agg #[.slice B1 nI d1, .slice B2 nO d2, .int .i64 (R.1 : Nat), .slice B k d, .slice D m f], .int .i64 0]) (by simp [results, Try.results18, go_sem , q80, q81, q82, q83, q84, l8']) rfl ?_
              exact rdecPost_ok E.2 He.out H8.out ((((((Keep.refl (· = w.heap.size) _).set_ _ rfl).set_ _ rfl).set_ _ rfl).set_ _ rfl).set_ _ rfl)
            · have hne : (((E.2 : Nat) : Int) != 0) = true := by rw [bne_iff_ne]; omega
              have Hne := Lib.hid he
              clear he
              go_wp2
              go_big_quiet (fail)
              go_wp2_with (first
                | ((go_at_call 52; (with_reducible refine (hbd _ (hX.out.drewN _).rdr).mono ?_); rintro e w8 ⟨rfl, hr8, k8, s8⟩); have H8 := Lib.hid ((hX.out.drewN _).rdr' k8 hr8); obtain ⟨b8, g8, A8, n8, c8, i8, bs8, x8, r8, i8n, dr8, l8, m8⟩ := hr8; have d8 : w8.cell? ⟨w.heap.size + 1, 2, none⟩ = some (.int .i64 (E.2 : Int)) := x8.cell 2; obtain ⟨q80, q81, q82, q83, q84⟩ := H8.out.rcells; have f8 := H8.out.res.frozen; have l8' := H8.out.res.lt; clear x8 r8 s8 dr8)
                | fail "no arm")
              go_region_held3 (fun w' => w'.cell? ⟨w.heap.size + 1, 2, none⟩ = some (.int .i64 (E.2 : Int))) (go_keep) (fail)
              all_goals
                go_wp2
                refine bodyPost_ret (v := .tuple #[.agg #[.slice none 0 0, .slice none 0 0, .int .i64 0, .slice none 0 0, .slice none 0 0], .int .i64 (E.2 : Nat)]) (by simp [results, Try.results18, go_sem , q80, q81, q82, q83, q84, l8']) rfl ?_
                exact rdecPost_no E.2 Hne.out H8.out (Keep.drew' ((((((Keep.refl (· = w.heap.size) _).set_ _ rfl).set_ _ rfl).set_ _ rfl).set_ _ rfl).set_ _ rfl))

set_option maxHeartbeats 1000000 in
theorem refdecode_any (A : Option Addr) (n c : Nat) (bs : List UInt8) (w : World) (hl : RB w A n bs) (h1 : n ≤ c) (h2 : c ≤ maxLen) :
    Calls Try.prog 18 #[.slice A n c] w (DecPost w (decodeL bs)) := by
  unfold decodeL
  simp only
  have hT := fun s wr h => refrtypes_any w (w.heap.size + 1) s wr h
  have hS := fun s lo hi wr h => refrshort_any w (w.heap.size + 1) s lo hi lo hi rfl rfl wr h
  have n60 := fun s => rShort_le 0 60 s
  have n2048 := fun s => rShort_le 0 2048 s
  exact refdecode_walk A n c bs w hl h1 h2 (rTypes (bs, 0)) (rTypes (rTypes (bs, 0)).2) _ _ (rShort 0 1600 _) (rShort 0 60 _) (rShort 0 2048 _) (fun k => rCells k _) (fun k => rInstrs k _) (n60 _) (n2048 _)
    (hT _) (hT _) (hS _ 0 1600) (hS _ 0 60) rfl (fun k => rfl) (hS _ 0 2048) rfl (fun k => rfl) _ rfl
end Go.Proofs.Ytkhihgilodhjfaa
