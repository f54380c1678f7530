/- FeedKeeps: what was told is kept. -/
import Derived.Test.YtalmdccgpigppaaPart25
import Derived.Deep.DeepCutAuto
import Derived.Deep.CutBlock
namespace Go.Proofs.Ytalmdccgpigppaa.feedKeeps
open Go.ChangeShapes Go.WideShapes Go.ChangeAt Go.RowKit
set_option linter.unusedVariables false
set_option linter.unusedSimpArgs false
/-- What became of Add. -/
def Out (D : DiskV) (n : Nat) (er : Int) (ts l : List Int) (rows sure : List (List Int)) : Prop := (er = 50 ∧ sure = rows ∧ FdX D ts rows (rows ++ [l])) ∨ (er ≠ 50 ∧ FdOn D ts sure ∧ n = sure.length)
def FT : TypeId := 143
def XT : TypeId := 65
set_option maxRecDepth 100000 in
set_option maxHeartbeats 16000000 in
theorem walk_main (A0 C0 : Option Addr) (n m0 c0 d0 : Nat) (ts : List Int) (l : List DoW) (w : World) (h0 : RI w A0 n ts) (hn : n ≤ maxLen) (h1 : DosW w C0 m0 l) (q1 : fewWB l = true) (hr : rightB ts = true) :
    Calls Try.prog 5 #[.slice A0 n c0, .slice C0 m0 d0] w fun e w' => e = .returned (.bool true) ∧ Below w.heap.size w w' := by
  have hq := fewWB_true q1
  rw [h1.1] at hq
  obtain ⟨hn40, hsm⟩ := hq
  have hf1 := fun w h => few35_any C0 m0 d0 l w h (by unfold maxLen; omega)
  rw [q1] at hf1
  have hri := fun W h => refright_any A0 n c0 ts W h hn
  rw [hr] at hri
  have Hsm := Lib.hid hsm
  have Hl1 := Lib.hid h1.1
  have w0 : F0.waits.length = 0 := f_waits.1
  have m1 : F0.many = 10 := f_many.1
  have hmd : ∀ w, Calls Try.prog 23 #[.slice none 0 0, .int .i64 10] w (Made35 w F0) := fun w => made35_ok none 0 0 [] 10 w ⟨rfl, Row.nil _ _ _⟩ (by omega) (by omega) (by omega) (by omega) (by show ((0 : Nat) : Int) ≤ 10; omega)
  obtain ⟨Db, e0, hst⟩ := startF ts hr
  have hop : ∀ {w : World} {base ga : Nat} {p : DiskP}, AreaAt w ga p.d 1 8 → DiskS w base p F0 → base ≤ w.heap.size → IntsAt w base A0 n ts → Calls Try.prog 24 #[.pointer (some ⟨ga, 0, none⟩), .slice A0 n c0] w fun e w' => ∃ g, e = .returned (.tuple #[.pointer (some ⟨g, 0, none⟩), .int .i64 0]) ∧ w.heap.size ≤ g ∧ JRowsAt FT w' base g ga 3 0 ts ∧ DiskS w' base p Db ∧ Step mutD base p w w' :=
    fun ha hd hs ht => fdopen_ok ha (by omega) hd hs (by rw [m1]; omega) (by rw [w0]; omega) A0 n c0 ht e0
  have HST := Lib.hid hst
  have hopen : ∀ (D D2 : DiskV) (nx : Nat), D.many = 10 → D.waits.length = 0 → fOpenV D 1 8 3 ts = (D2, nx, 0) → ∀ (w : World) (base ga : Nat) (p : DiskP), AreaAt w ga p.d 1 8 → DiskS w base p D → base ≤ w.heap.size → IntsAt w base A0 n ts → Calls Try.prog 24 #[.pointer (some ⟨ga, 0, none⟩), .slice A0 n c0] w fun e w' => ∃ g, e = .returned (.tuple #[.pointer (some ⟨g, 0, none⟩), .int .i64 0]) ∧ w.heap.size ≤ g ∧ JRowsAt FT w' base g ga 3 nx ts ∧ DiskS w' base p D2 ∧ Step mutD base p w w' :=
    fun D D2 nx e1 e2 e3 _ _ _ _ ha hd hs ht => fdopen_ok ha (by omega) hd hs (by rw [e1]; omega) (by rw [e2]; omega) A0 n c0 ht e3
  have HOPEN := Lib.hid hopen
  clear hopen hsm hst
  generalize F0 = Da at *
  clear e0 w0 m1
  go_enter Try.func5, Try.ntmps5
  go_wp2_with (first
    | ((go_at_call 20; (with_reducible refine (awake35 _).mono ?_); rintro e w1 ⟨rfl, hb1⟩); have s1 := hb1.size; have HB1 := Lib.hid hb1; have R0 := Lib.hid (h0.below hb1 (Nat.le_refl _)); have R1 := Lib.hid (h1.below hb1 (Nat.le_refl _)); clear hb1)
    | ((go_at_call 21; (with_reducible refine (hf1 _ R1.out).mono ?_); rintro e w2 ⟨rfl, hb2⟩); have B2 := Lib.hid hb2; have s2 := hb2.size; have Q0 := Lib.hid (R0.out.below hb2 (Nat.le_refl _)); have Q1 := Lib.hid (R1.out.below hb2 (Nat.le_refl _)); clear hb2)
    | (go_at_call 22; (with_reducible refine (hri _ Q0.out).mono ?_); rintro e w3 ⟨rfl, rfl⟩)
    | ((go_at_call 23; (with_reducible refine (hmd w2).mono ?_); rintro e w3 ⟨p, ga, rfl, h3, a3, b3⟩); have H3 := Lib.hid h3; have A3 := Lib.hid a3; have s3 := b3.size; have B3 := Lib.hid b3; have T3 := Lib.hid (IntsAt.old Q0.out hn b3 (Nat.le_refl _)); clear h3 a3 b3)
    | ((go_at_call 24; (with_reducible refine (hop A3.out H3.out s3 T3.out).mono ?_); rintro e w4 ⟨gf, rfl, g4, j4, h4, st4⟩); have A4 := Lib.hid (H3.out.area A3.out st4.tch (by decide)); have B4 := Lib.hid (B3.out.trans st4.bel); have SE4 := Lib.hid (show SeatAt FT w2 w4 p ga gf 3 Db 0 ts from ⟨h4, A4.out, j4, B4.out⟩); have s4 := B4.out.size; clear h4 j4 st4)
    | fail "no arm")
  have HB := Lib.hid (HB1.out.trans (B2.out.mono s1))
  have R0Q := Lib.hid Q0.out
  have RD := Lib.hid Q1.out
  clear hmd hop hf1 hri B3 A3 H3 T3 A4 Q0 Q1 R0 R1 h0 h1
  generalize w2 = wb at *
  go_loopw [7, 8, 9, 12, 13, 14, 15, 16, 17, 18, 43] (fun f _ s _ _ _ _ _ _ _ i wr => ∃ (k : Nat) (D : DiskV) (rows : List (List Int)) (gf : Nat) (B : Option Addr) (c : Nat), k ≤ m0 ∧ i = .int .i64 (k : Nat) ∧ f = .pointer (some ⟨gf, 0, none⟩) ∧ s = .slice B rows.length c ∧ SeatAt FT wb wr p ga gf 3 D rows.length ts ∧ RowsIn wr wb.heap.size wb.heap.size B rows.length c rows ∧ FdOn D ts rows) (fun _ _ _ _ _ _ _ _ _ _ i _ => m0 - (intOf i).toNat)
  case atStart => exact ⟨0, Db, [], gf, none, 0, by omega, rfl, rfl, rfl, SE4.out, RowsIn.nil _ _ _, HST.out⟩
  case round =>
    obtain ⟨k, D, rows, gf, B, c, hk, rfl, rfl, rfl, hse, hL, hph⟩ := hrel
    have hs := hse.size
    by_cases hlt : k < m0
    · obtain ⟨x, hx⟩ : ∃ x, l[k]? = some x := ⟨_, List.getElem?_eq_getElem (by rw [Hl1.out]; exact hlt)⟩
      obtain ⟨b, o, C, q, e, Bx, m, d, hA0, hrC, hqe, hem, hrB, hmd, hdm, hxn, hio, hget⟩ := RD.out.get hx
      obtain ⟨hb, e0, e1, e2, e3⟩ := hget wr _ hse.b (Nat.le_refl _)
      obtain ⟨hm200, hq20⟩ := Hsm.out x (List.mem_of_getElem? hx)
      have hqm : q ≤ 20 := by have := hrC.1; omega
      have hmm : m ≤ 200 := by have := hrB.1; omega
      have bX : Below wr.heap.size wr (wr.alloc (.cells #[.int .i64 x.kind, .int .i64 x.n, .slice C q e, .slice Bx m d] 65)) := (Below.refl _ _).alloc (Nat.le_refl _) _
      have HX := Lib.hid (show Blk (wr.alloc (.cells #[.int .i64 x.kind, .int .i64 x.n, .slice C q e, .slice Bx m d] 65)) wr.heap.size 65 (doW x C q e Bx m d) from Blk.top _ rfl rfl)
      have SE := Lib.hid (hse.below bX)
      have L := Lib.hid (hL.below bX)
      have hsX := SE.out.size
      have hcut := s_cut SE.out.d hsX x.n hxn.2
      have hph2 := hph.cutTo (max x.n (-1)) (by omega) (by have := hxn.2; omega)
      have hle := hph.le
      have hout : ∃ D1 n1 v er, fAddV { D with cut := max x.n (-1) } 1 8 3 rows.length ts x.l = (D1, n1, v, er) ∧ ((er = 0 ∧ v = (rows.length : Int) ∧ n1 = rows.length + 1 ∧ FdOn D1 ts (rows ++ [x.l])) ∨ (er ≠ 0 ∧ Out D1 n1 er ts x.l rows rows)) := by
        rcases hph2.added hio with ⟨er, h1, h2⟩ | ⟨D1, h1, h2⟩ | ⟨D1, n1, h1, h2⟩
        · exact ⟨_, _, _, _, h1, .inr ⟨by omega, .inr ⟨by omega, hph2, rfl⟩⟩⟩
        · exact ⟨_, _, _, _, h1, .inl ⟨rfl, rfl, rfl, h2⟩⟩
        · exact ⟨_, _, _, _, h1, .inr ⟨by omega, .inl ⟨rfl, rfl, h2⟩⟩⟩
      have hC := fun (W : World) (hw : SeatAt FT wb W p ga gf 3 { D with cut := max x.n (-1) } rows.length ts) => fdadd_any hw.j hw.d hw.size hw.a (by rw [hph2.many]; omega) (by omega) hle (by rw [hph2.waits]; omega) hr C q e (l := x.l) (hrC.below hw.b (Nat.le_refl _)) (by unfold maxLen; omega) hio
      obtain ⟨D1, n1, v, er, hadd, hcase⟩ := hout
      rw [hadd] at hC
      simp only at hC
      have HIL := Lib.hid (fun (W : World) (hw : Below wb.heap.size wb W) => IntsAt.old hrC (by unfold maxLen; omega) hw (Nat.le_refl wb.heap.size))
      have HRB := Lib.hid hrB
      have HCASE := Lib.hid hcase
      clear hph2 hph hadd hcase hio hrC hrB hget hse hL bX
      generalize ({ D with cut := max x.n (-1) } : DiskV) = Dc at *
      subst hA0
      go_upto_if 59 with (first
        | ((go_at_call 12; (with_reducible refine (hcut).mono ?_); rintro e w5 ⟨rfl, h5, st5⟩); have SE5 := Lib.hid (SE.out.step h5 st5 (by decide) (by decide) (by decide) (by decide)); have L5 := Lib.hid (L.out.step SE.out.d st5 (by decide) (by decide)); have X5 := Lib.hid (SE.out.d.blk HX.out st5.tch (by decide)); have y5 : w5.cell? ⟨wr.heap.size, 2, none⟩ = some (.slice C q e) := X5.out.cell 2; clear h5 st5)
        | ((go_at_call 25; (with_reducible refine (hC _ SE5.out).mono ?_); rintro e w6 ⟨rfl, h6, j6, st6⟩); have SE6 := Lib.hid (SE5.out.stepJ h6 j6 st6 (by decide)); have L6 := Lib.hid (L5.out.step SE5.out.d st6 (by decide) (by decide)); have X6 := Lib.hid (SE5.out.d.blk X5.out st6.tch (by decide)); have s6 := SE6.out.size; clear h6 j6 st6)
        | fail "no arm")
      generalize hgx : wr.heap.size = gx at *
      clear SE L SE5 L5 X5 HX hC hcut
      have hcl : x.l.length ≤ 20 := hq20
      go_cut [9] (fun s wx => ∃ (B' : Option Addr) (c' : Nat) (sure : List (List Int)), s = .slice B' sure.length c' ∧ SeatAt FT wb wx p ga gf 3 D1 n1 ts ∧ RowsIn wx wb.heap.size wb.heap.size B' sure.length c' sure ∧ Blk wx gx 65 (doW x C q e Bx m d) ∧ Out D1 n1 er ts x.l rows sure)
      case first =>
        rcases HCASE.out with ⟨rfl, rfl, rfl, hon⟩ | ⟨hne, hout⟩
        · have HON := Lib.hid hon
          have hx2 : w6.cell? ⟨gx, 2, none⟩ = some (.slice C q e) := X6.out.cell 2
          clear hon HCASE
          go_wp2_with (first
            | (at_builtin; have bA : Below w6.heap.size w6 (w6.alloc (.cells #[.slice C q e] 54)) := (Below.refl _ _).alloc (Nat.le_refl _) _; refine wpList_row (h := ⟨C, q, e⟩) (L := x.l) rfl rfl rfl (L6.out.below bA) rfl (Rd.of_block (l := [(⟨C, q, e⟩ : SlV)]) (heap_top _ _ rfl) rfl) (HIL.out _ (SE6.out.b.trans (bA.mono s6))) (SE6.out.d.below bA) (by omega) (Nat.le_refl _) (by have := bA.size; omega) ?_; intro A7 c7 w7 L7 st7 d7 s7; have SE7 := Lib.hid ((SE6.out.below bA).step d7 st7 (by decide) (by decide) (by decide) (by decide)); have X7 := Lib.hid ((SE6.out.below bA).d.blk (X6.out.below bA X6.out.lt) st7.tch (by decide)); have LL7 := Lib.hid L7; clear L7 st7 d7 bA)
            | fail "no arm")
          go_meet
          exact ⟨A7, c7, rows ++ [x.l], by simp, SE7.out, by simpa using LL7.out, X7.out, .inr ⟨by omega, HON.out, by simp⟩⟩
        · have hnb : (er == 0) = false := by rw [beq_eq_false_iff_ne]; exact hne
          have HO := Lib.hid hout
          clear hne hout HCASE
          go_wp2
          go_meet
          exact ⟨B, c, rows, rfl, SE6.out, L6.out, X6.out, HO.out⟩
      case rest =>
        obtain ⟨B2, c2, sure, rfl, se2, l2, x2, hO⟩ := hcut
        have hs2 := se2.size
        have HX2 := Lib.hid x2
        have SE2 := Lib.hid se2
        have L2 := Lib.hid l2
        have HO := Lib.hid hO
        have hlc := l2.len
        clear SE6 L6 X6 HCASE l2 se2 x2 hO
        generalize wc = wm at *
        go_upto_if 71 with fail
        go_cut [12] (fun a wx => ∃ (aB : Option Addr) (ac : Nat) (all : List (List Int)), a = .slice aB all.length ac ∧ SeatAt FT wb wx p ga gf 3 D1 n1 ts ∧ RowsIn wx wb.heap.size wb.heap.size B2 sure.length c2 sure ∧ RowsIn wx wb.heap.size wb.heap.size aB all.length ac all ∧ Blk wx gx 65 (doW x C q e Bx m d) ∧ FdX D1 ts sure all ∧ (er ≠ 50 → FdOn D1 ts sure ∧ n1 = sure.length))
        case first =>
          rcases HO.out with ⟨rfl, rfl, hx⟩ | ⟨hne, hon, hn1⟩
          · have HXX := Lib.hid hx
            obtain ⟨hsl, _, _, hs9, hint, hcase9⟩ := L2.out
            have hrd9 : Rd slV wm B2 sure.length hs9 := by
              rcases hcase9 with q | q
              · exact q.rd
              · exact q.2.1
            have HINT := Lib.hid hint
            have hx2 : wm.cell? ⟨gx, 2, none⟩ = some (.slice C q e) := HX2.out.cell 2
            have hgl : gx < wm.heap.size := HX2.out.lt
            clear hx HO hcase9 hint
            go_wp2
            go_region_held3 (fun w' => w'.cell? ⟨gx, 2, none⟩ = some (.slice C q e)) (first | go_keep | assumption) (first
              | (refine step_app (α := SlV) (enc := slV) (base := wm.heap.size) rfl rfl elemRows slV_one (s := .tmp 72) (N := sure.length) (L := hs9) rfl (ow_empty (by (repeat' (first | (with_reducible assumption) | (with_reducible refine Blk.top _ (by first | rfl | omega | (simp; done) | (simp; omega)) rfl) | (with_reducible refine Blk.alloc ?_ _) | (with_reducible refine Blk.drew ?_) | (with_reducible refine Blk.drewN ?_ _) | (with_reducible refine Blk.far ?_ (by first | omega | (simp; done) | (simp; omega)) _)))) (by first | exact Nat.le_refl _ | (simp; done) | (simp; omega))) rfl (k := hs9) (hrd9.below (b := wm.heap.size) (by (repeat' (first | (with_reducible exact Below.refl _ _) | (with_reducible assumption) | (with_reducible refine Below.drew ?_) | (with_reducible refine below_drewN ?_ _) | (with_reducible refine Below.alloc ?_ ?_ _) | (with_reducible refine Below.setCell ?_ ?_ _) | omega | (simp; done) | (simp; omega)))) (Nat.le_refl _)) (by omega) (by simp) (by unfold maxLen; omega) (by omega) (by first | omega | (simp; done) | (simp; omega)) ?_; intro A7 c7 w7 own7 hg7 hat7 hb7; (first | (have hk7 : Blk w7 wm.heap.size 54 [slV ⟨C, q, e⟩] := Blk.grown (Blk.drew (Blk.alloc (Blk.top _ rfl rfl) _)) hg7 (fun e => by simp at e)) | (have hk7 : Blk w7 (wm.heap.size + 1) 54 [slV ⟨C, q, e⟩] := Blk.grown (Blk.drew (Blk.top _ (show wm.heap.size + 1 = (wm.alloc _).heap.size from by simp) rfl)) hg7 (fun e => by simp at e)) | skip); replace hb7 := below_then' (a := wm) (B := wm.heap.size) (by (repeat' (first | (with_reducible exact Below.refl _ _) | (with_reducible assumption) | (with_reducible refine Below.drew ?_) | (with_reducible refine below_drewN ?_ _) | (with_reducible refine Below.alloc ?_ ?_ _) | (with_reducible refine Below.setCell ?_ ?_ _) | omega | (simp; done) | (simp; omega)))) hb7 (by first | omega | (simp; done) | (simp; omega)); have hb7s := hb7.size; have g7 : w7.cell? ⟨gx, 2, none⟩ = some (.slice C q e) := (HX2.out.below hb7 HX2.out.lt).cell 2)
              | (refine step_app (α := SlV) (enc := slV) (base := wm.heap.size) rfl rfl elemRows slV_one (s := .tmp 74) (N := sure.length + 1) (L := hs9 ++ [⟨C, q, e⟩]) rfl (own7.below (b := w7.heap.size) (by (repeat' (first | (with_reducible exact Below.refl _ _) | (with_reducible assumption) | (with_reducible refine Below.drew ?_) | (with_reducible refine below_drewN ?_ _) | (with_reducible refine Below.alloc ?_ ?_ _) | (with_reducible refine Below.setCell ?_ ?_ _) | omega | (simp; done) | (simp; omega)))) (Nat.le_refl _)) rfl (k := [⟨C, q, e⟩]) (Blk.hdr (by (repeat' (first | (with_reducible assumption) | (with_reducible refine Blk.top _ (by first | rfl | omega | (simp; done) | (simp; omega)) rfl) | (with_reducible refine Blk.alloc ?_ _) | (with_reducible refine Blk.drew ?_) | (with_reducible refine Blk.drewN ?_ _) | (with_reducible refine Blk.far ?_ (by first | omega | (simp; done) | (simp; omega)) _))))) (by omega) rfl (by unfold maxLen; omega) (by omega) (by first | omega | (simp; done) | (simp; omega)) ?_; intro A8 c8 w8 own8 hg8 hat8 hb8; replace hb8 := below_then' (a := wm) (B := wm.heap.size) (by (repeat' (first | (with_reducible exact Below.refl _ _) | (with_reducible assumption) | (with_reducible refine Below.drew ?_) | (with_reducible refine below_drewN ?_ _) | (with_reducible refine Below.alloc ?_ ?_ _) | (with_reducible refine Below.setCell ?_ ?_ _) | omega | (simp; done) | (simp; omega)))) hb8 (by first | omega | (simp; done) | (simp; omega)); have hb8s := hb8.size; have g8 : w8.cell? ⟨gx, 2, none⟩ = some (.slice C q e) := (HX2.out.below hb8 HX2.out.lt).cell 2)
              | fail "no arm")
            all_goals
              go_wp2
              go_meet
              have hw9 : IntsAt w8 wb.heap.size C q x.l := HIL.out w8 (SE2.out.below hb8).b
              have hin9 : ∀ (k : Nat) (h : SlV) (L : List Int), hs9[k]? = some h → sure[k]? = some L → IntsAt w8 wb.heap.size h.a h.n L := fun k h L a1 a2 => (HINT.out k h L a1 a2).below hb8
              have how9 : Ow slV w8 wb.heap.size 54 A8 (sure.length + 1) c8 (hs9 ++ [⟨C, q, e⟩]) := own8.rebase hs2
              have hlen9 : (sure ++ [x.l]).length = sure.length + 1 := by rw [List.length_append, List.length_singleton]
              have hsn9 := ints_snoc (h := ⟨C, q, e⟩) (L := x.l) (rfl : sure.length = sure.length) hrd9.1 hin9 hw9
              have hin := RowsIn.copied hlen9 hsn9 how9
              have HIN := Lib.hid hin
              have SE8 := Lib.hid (SE2.out.below hb8)
              have L8 := Lib.hid (L2.out.below hb8)
              have X8 := Lib.hid (HX2.out.below hb8 HX2.out.lt)
              clear hin own8 own7 hrd9
              exact ⟨A8, c8, sure ++ [x.l], by rw [hlen9], SE8.out, L8.out, by rw [hlen9]; exact HIN.out, X8.out, HXX.out, fun h => absurd rfl h⟩
          · have hnb : (er == 50) = false := by rw [beq_eq_false_iff_ne]; exact hne
            have HON := Lib.hid hon
            clear hon hne HO
            go_wp2
            go_meet
            exact ⟨B2, c2, sure, rfl, SE2.out, L2.out, L2.out, HX2.out, HON.out.x, fun _ => ⟨HON.out, hn1⟩⟩
        case rest =>
          obtain ⟨aB, ac, all, rfl, se3, l3, al3, x3, hx3, hon3⟩ := hcut
          have hs3 := se3.size
          have HX3 := Lib.hid x3
          have SE3 := Lib.hid se3
          have L3 := Lib.hid l3
          have AL3 := Lib.hid al3
          have HXX := Lib.hid hx3
          have HON := Lib.hid hon3
          have hlc3 := al3.len
          have hpl := hx3.len
          have hple := hx3.le
          have y30 : wc.cell? ⟨gx, 0, none⟩ = some (.int .i64 x.kind) := x3.cell 0
          have y33 : wc.cell? ⟨gx, 3, none⟩ = some (.slice Bx m d) := x3.cell 3
          clear SE2 L2 HX2 HO l3 se3 x3 al3 hx3 hon3
          generalize wc = wn at *
          have HIT := Lib.hid (fun (W : World) (hw : Below wb.heap.size wb W) => IntsAt.old R0Q.out hn hw (Nat.le_refl wb.heap.size))
          go_upto_region 23 with fail
          go_cut [85] (fun v wx => v = .bool ((er != 50) && decide (x.kind < 3)) ∧ wn = wx)
          case first =>
            cases hE : (er != 50) with
            | false =>
              have hnb : (er != 50) = false := hE
              go_wp2
              go_meet
              exact ⟨by first | rfl | (rw [hnb]; rfl), rfl⟩
            | true =>
              have hnb : (er != 50) = true := hE
              by_cases hk3 : x.kind < 3
              · have hd3 : Hid (decide (x.kind < 3) = true) := decide_eq_true hk3
                go_wp2
                go_meet
                exact ⟨by rw [hd3.out]; first | rfl | (rw [hnb]; rfl), rfl⟩
              · have hd3 : Hid (decide (x.kind < 3) = false) := decide_eq_false hk3
                go_wp2
                go_meet
                exact ⟨by rw [hd3.out]; first | rfl | (rw [hnb]; rfl), rfl⟩
          case rest =>
            obtain ⟨rfl, rfl⟩ := hcut
            cases hcont : ((er != 50) && decide (x.kind < 3)) with
            | true =>
              have he : er ≠ 50 := by
                rw [Bool.and_eq_true] at hcont
                exact bne_iff_ne.1 hcont.1
              obtain ⟨hon, hn1⟩ := HON.out he
              have HO2 := Lib.hid hon
              have SE9 := Lib.hid SE3.out
              rw [hn1] at SE9
              clear he hon hcont
              go_wp2
              go_roundw
              case rel => first
                | exact ⟨k + 1, D1, sure, gf, B2, c2, by omega, by go_num, rfl, rfl, SE9.out, L3.out, HO2.out⟩
                | ((repeat apply Exists.intro); exact ⟨⟨k + 1, D1, sure, gf, B2, c2, by omega, by go_num, rfl, rfl, SE9.out, L3.out, HO2.out⟩, rfl⟩)
              case measure => simp [intOf]; omega
            | false =>
              clear hcont HON
              have hcr := s_crash SE3.out.d hs3 Bx m d x.b (HRB.out.below SE3.out.b (Nat.le_refl _)) (fun h0 g hg => by obtain ⟨b9, o9, e9, h9, _⟩ := HRB.out.2 h0; rw [e9] at hg; simp only [Option.map_some, Option.some.injEq] at hg; omega) (by unfold maxLen; omega)
              have hc := HXX.out.crash x.b
              obtain ⟨D4, got, e4, hon4, hpre, hle1, hle2⟩ := hc.opened
              have hop := HOPEN.out _ _ _ hc.many hc.waits e4
              have hgl8 := hon4.le
              have HON4 := Lib.hid hon4
              have HPRE := Lib.hid hpre
              generalize crashV D1 x.b = Dc4 at *
              clear e4 hon4 hpre hc
              have hsn : sure.length ≤ 8 := by omega
              go_upto_region 29 with (first
                | ((go_at_call 14; (with_reducible refine (hcr).mono ?_); rintro e w5 ⟨rfl, h5, st5⟩); have SE5 := Lib.hid (SE3.out.step h5 st5 (by decide) (by decide) (by decide) (by decide)); have L5 := Lib.hid (L3.out.step SE3.out.d st5 (by decide) (by decide)); have AL5 := Lib.hid (AL3.out.step SE3.out.d st5 (by decide) (by decide)); clear h5 st5)
                | ((go_at_call 24; (with_reducible refine (hop _ _ _ _ SE5.out.a SE5.out.d SE5.out.size (HIT.out _ SE5.out.b)).mono ?_); rintro e w6 ⟨gk, rfl, g6, j6, h6, st6⟩); have SE6 := Lib.hid (SE5.out.stepJ h6 j6 st6 (by decide)); have L6 := Lib.hid (L5.out.step SE5.out.d st6 (by decide) (by decide)); have AL6 := Lib.hid (AL5.out.step SE5.out.d st6 (by decide) (by decide)); have s6 := SE6.out.size; have hlen := fdlen_any SE6.out.j; clear h6 j6 st6)
                | (go_at_call 26; (with_reducible refine (hlen).mono ?_); rintro e w7 ⟨rfl, rfl⟩)
                | fail "no arm")
              go_wp2_with (first
                | (go_at_call 26; (with_reducible refine (hlen).mono ?_); rintro e w7 ⟨rfl, rfl⟩)
                | fail "no arm")
              have FX := Lib.hid AL6.out.fix
              clear hlen hcr hop SE3 L3 AL3 SE5 L5 AL5 HX3 L6 AL6
              generalize hlim : w6.heap.size = lim at *
              go_loopw [15, 16, 17, 18, 114] (fun gs _ _ _ i w8 => ∃ (k' : Nat) (o8 : List Int) (B' : Option Addr) (c' : Nat), k' ≤ got.length ∧ i = .int .i64 (k' : Nat) ∧ gs = .slice B' k' c' ∧ SeatAt FT wb w8 p ga gk 3 { D4 with ops := o8 } got.length ts ∧ RowsFix w8 wb.heap.size lim aB all.length all ∧ RowsIn w8 wb.heap.size lim B' k' c' (got.take k') ∧ lim ≤ w8.heap.size) (fun _ _ _ _ i _ => got.length - (intOf i).toNat)
              case atStart => exact ⟨0, D4.ops, none, 0, by omega, rfl, rfl, SE6.out, FX.out, RowsIn.nil _ _ _, by omega⟩
              case round =>
                obtain ⟨k', o8, B', c', hk', rfl, rfl, se8, al8, gl8, hl8⟩ := hrel
                have hs8 := se8.size
                have SE8 := Lib.hid se8
                have AL8 := Lib.hid al8
                have GL8 := Lib.hid gl8
                clear se8 al8 gl8
                by_cases hlt' : k' < got.length
                · have hget0 := (HON4.out.ops o8).get (List.getElem?_eq_getElem hlt')
                  have hget := fdget_any SE8.out.j SE8.out.d hs8 SE8.out.a (by show 1 + 8 ≤ D4.many; rw [HON4.out.many]; omega) (by omega) (k' : Int)
                  rw [hget0] at hget
                  simp only [readV'] at hget
                  have htk := Lib.hid (show got.take (k' + 1) = got.take k' ++ [got[k']] from List.take_succ_eq_append_getElem hlt')
                  generalize got[k'] = row at *
                  clear hget0
                  go_wp2_with (first
                    | ((go_at_call 27; (with_reducible refine (hget).mono ?_); rintro e w9 ⟨L9, k9, d9, rfl, o9, h9, st9⟩); have SE9 := Lib.hid (SE8.out.step h9 st9 (by decide) (by decide) (by decide) (by decide)); have AL9 := Lib.hid (AL8.out.step SE8.out.d st9 (by decide) (by decide)); have GL9 := Lib.hid (GL8.out.step SE8.out.d st9 (by decide) (by decide)); have I9 := Lib.hid (show IntsAt w9 wb.heap.size L9 k9 row from IntsAt.of_ow o9); have s9 := st9.size; clear h9 st9 o9)
                    | (at_builtin; have bA : Below w9.heap.size w9 (w9.alloc (.cells #[.slice L9 k9 d9] 54)) := (Below.refl _ _).alloc (Nat.le_refl _) _; refine wpList_row (h := ⟨L9, k9, d9⟩) (L := row) rfl rfl rfl (GL9.out.below bA) rfl (Rd.of_block (l := [(⟨L9, k9, d9⟩ : SlV)]) (heap_top _ _ rfl) rfl) (I9.out.below bA) (SE9.out.d.below bA) (by omega) (by omega) (by have := bA.size; omega) ?_; intro A10 c10 w10 L10 st10 d10 s10; have SE10 := Lib.hid ((SE9.out.below bA).step d10 (st10.lower (by omega)) (by decide) (by decide) (by decide) (by decide)); have AL10 := Lib.hid ((AL9.out.below bA).app (SE9.out.below bA).d st10 (by omega)); have GL10 := Lib.hid L10; have t10 := bA.size; clear L10 st10 d10 bA)
                    | fail "no arm")
                  go_roundw
                  case rel => first
                    | exact ⟨k' + 1, _, A10, c10, by omega, by go_num, rfl, SE10.out, AL10.out, by rw [htk.out]; exact GL10.out, by omega⟩
                    | ((repeat apply Exists.intro); exact ⟨⟨k' + 1, _, A10, c10, by omega, by go_num, rfl, SE10.out, AL10.out, by rw [htk.out]; exact GL10.out, by omega⟩, rfl⟩)
                  case measure => simp [intOf]; omega
                · have hk9 : k' = got.length := by omega
                  subst hk9
                  have hsame := rowssame_any B' aB got.length got.length c' ac got got wr (by have := GL8.out.rd; rwa [List.take_length] at this) (by have := AL8.out.rd.take_ hle2; rwa [← HPRE.out] at this) (by unfold maxLen; omega) (by unfold maxLen; omega)
                  rw [decide_eq_true (rfl : got = got)] at hsame
                  go_wp2_with (first
                    | ((go_at_call 28; (with_reducible refine (hsame).mono ?_); rintro e w9 ⟨rfl, b9⟩))
                    | fail "no arm")
                  go_roundw
                  case rel => first
                    | exact ⟨k + 1, _, got, gk, B', c', by omega, by go_num, rfl, rfl, SE8.out.below b9, by have := (GL8.out.below b9).lower (show wb.heap.size ≤ lim by omega); rwa [List.take_length] at this, HON4.out.ops o8⟩
                    | ((repeat apply Exists.intro); exact ⟨⟨k + 1, _, got, gk, B', c', by omega, by go_num, rfl, rfl, SE8.out.below b9, by have := (GL8.out.below b9).lower (show wb.heap.size ≤ lim by omega); rwa [List.take_length] at this, HON4.out.ops o8⟩, rfl⟩)
                  case measure => simp [intOf]; omega
    · have hk9 : k = m0 := by omega
      subst hk9
      have HSE := Lib.hid hse
      clear hse hL hph
      go_wp2
      go_ret
      exact ⟨rfl, HB.out.trans (HSE.out.b.mono (by have := B2.out.size; omega))⟩
set_option maxRecDepth 100000 in
set_option maxHeartbeats 8000000 in
theorem walk_no (A0 C0 : Option Addr) (n m0 c0 d0 : Nat) (ts : List Int) (l : List DoW) (w : World) (h0 : RI w A0 n ts) (hn : n ≤ maxLen) (h1 : DosW w C0 m0 l) (hm : m0 ≤ maxLen) (hc : fewWB l = false ∨ (fewWB l = true ∧ rightB ts = false)) :
    Calls Try.prog 5 #[.slice A0 n c0, .slice C0 m0 d0] w fun e w' => e = .returned (.bool true) ∧ Below w.heap.size w w' := by
  have hf1 := fun w h => few35_any C0 m0 d0 l w h hm
  have hri := fun W h => refright_any A0 n c0 ts W h hn
  rcases hc with q1 | ⟨q1, q2⟩
  · rw [q1] at hf1
    go_enter Try.func5, Try.ntmps5
    go_wp2_with (first
      | ((go_at_call 20; (with_reducible refine (awake35 _).mono ?_); rintro e w1 ⟨rfl, hb1⟩); have s1 := hb1.size; have HB1 := Lib.hid hb1; have R1 := Lib.hid (h1.below hb1 (Nat.le_refl _)); clear hb1)
      | ((go_at_call 21; (with_reducible refine (hf1 _ R1.out).mono ?_); rintro e w2 ⟨rfl, hb2⟩); have HB2 := Lib.hid (HB1.out.trans (hb2.mono s1)); clear hb2)
      | fail "no arm")
    go_ret
    exact ⟨rfl, HB2.out⟩
  · rw [q1] at hf1
    rw [q2] at hri
    go_enter Try.func5, Try.ntmps5
    go_wp2_with (first
      | ((go_at_call 20; (with_reducible refine (awake35 _).mono ?_); rintro e w1 ⟨rfl, hb1⟩); have s1 := hb1.size; have HB1 := Lib.hid hb1; have R0 := Lib.hid (h0.below hb1 (Nat.le_refl _)); have R1 := Lib.hid (h1.below hb1 (Nat.le_refl _)); clear hb1)
      | ((go_at_call 21; (with_reducible refine (hf1 _ R1.out).mono ?_); rintro e w2 ⟨rfl, hb2⟩); have HB2 := Lib.hid (HB1.out.trans (hb2.mono s1)); have Q0 := Lib.hid (R0.out.below hb2 (Nat.le_refl _)); clear hb2)
      | (go_at_call 22; (with_reducible refine (hri _ Q0.out).mono ?_); rintro e w3 ⟨rfl, rfl⟩)
      | fail "no arm")
    go_ret
    exact ⟨rfl, HB2.out⟩
theorem walk (w : World) (A0 : Option Addr) (n c0 : Nat) (ts : List Int) (h0 : RI w A0 n ts) (nc : n ≤ c0) (cm : c0 ≤ maxLen) (hz : ∀ z ∈ ts, -9223372036854775808 ≤ z ∧ z ≤ 9223372036854775807) (v1 : Value) (x1 : ∃ A n c l, v1 = .slice A n c ∧ DosW w A n l ∧ n ≤ c ∧ c ≤ maxLen) :
    Calls Try.prog 5 #[.slice A0 n c0, v1] w fun e w' => e = .returned (.bool true) ∧ Below w.heap.size w w' := by
  obtain ⟨C0, m0, d0, l, rfl, r1, nc1, cm1⟩ := x1
  cases q : fewWB l with
  | false => exact walk_no A0 C0 n m0 c0 d0 ts l w h0 (by omega) r1 (by omega) (.inl q)
  | true =>
    cases hr : rightB ts with
    | false => exact walk_no A0 C0 n m0 c0 d0 ts l w h0 (by omega) r1 (by omega) (.inr ⟨q, hr⟩)
    | true => exact walk_main A0 C0 n m0 c0 d0 ts l w h0 (by omega) r1 q hr

--FRAME tompionlaw35 FeedKeeps feedKeeps walk ints raw:[]tompionlaw35.Do:args_dos35:.slice‹_›none‹_›0‹_›0
theorem own : ownKnob Try.prog.godebug = none := by kernel_rfl
theorem laidOut : laidOutB Try.prog = true := by kernel_rfl

set_option maxRecDepth 100000 in
theorem lifted (os : Os) (started : os.Started) (H : Type) (enc : TypeId × Value → H) :
    ReturnsInHanded {} Try.checked os 5 .any (Rows.feedKeepsSpec.pre6 enc Try.prog Try.f5 Rows.feedKeepsRow.domain false) (Rows.feedKeepsSpec.post enc Try.prog Try.f5 false true false false) := by
  refine returnsInHanded_of_change (C := Try.checked) own started (by kernel_rfl) Try.func5
    (ChangeSpec.witness6 (enc := enc) (C := Try.checked) false ⟨#[], #[.slice none 0 0, .slice none 0 0], []⟩ 8 (by kernel_rfl) (by kernel_rfl) (by kernel_rfl) (by kernel_rfl)) ?_
  intro W base args ds gs before hval0 hW hcnd _
  have hval : ∀ (j : Nat) t v, Try.f5.params[j]? = some t → args[j]? = some v → Value.okWide Try.prog W .any base t v := hval0
  have hW' := hW
  obtain ⟨p, q, hA0, hV, rfl, hfz, hnd⟩ := hW
  have hA : DataW.TrodAll enc Try.prog W 0 (fun _ => true) true Try.f5.params.toList args.toList ds p := hA0
  rw [Try.params5] at hA hval
  obtain ⟨v0, vs0, d0, ds0, p0, q0, hargs, rfl, rfl, h0, rr0⟩ := trodAll_cons hA
  obtain ⟨v1, vs1, d1, ds1, p1, q1, rfl, rfl, rfl, h1, rr1⟩ := trodAll_cons rr0
  obtain ⟨rfl, rfl, rfl⟩ := trodAll_nil rr1
  obtain rfl : args = #[v0, v1] := by cases args; simp_all
  obtain ⟨rfl, rfl⟩ := trodVars_none hV
  have k0 := h0
  have lt0 : ∀ x ∈ p0, x.block < W.heap.size := by obtain ⟨m, hm⟩ := k0; exact DataW.trod_lt m _ _ _ hm
  obtain ⟨A0, n0, c0, l0, rfl, r0, nc0, cm0, wf0⟩ := args_ints Try.underlying54 Try.underlying3 (by kernel_rfl) (hval 0 54 v0 rfl rfl) h0
  have k1 := h1
  have lt1 : ∀ x ∈ p1, x.block < W.heap.size := by obtain ⟨m, hm⟩ := k1; exact DataW.trod_lt m _ _ _ hm
  have x1 := args_dos35 (hval 1 55 v1 rfl rfl) h1
  clear hA0 hval0
  refine (walk W A0 n0 c0 l0 r0 nc0 cm0 wf0 v1 x1).mono fun e W' ⟨he, bel⟩ => ?_
  subst he
  exact ⟨_, rfl, _, _, _, [], _, [], hW', trodAll_mk1 (shut_bool Try.underlying4 _), (trodAll_cons_mk (Below.trod laidOut (by kernel_rfl) (of_decide_eq_true (by kernel_rfl)) k0 bel lt0) (trodAll_cons_mk (Below.trod laidOut (by kernel_rfl) (of_decide_eq_true (by kernel_rfl)) k1 bel lt1) trodAll_mk0)), rfl, bel.frame _, fun h => by cases h⟩

theorem over : Rows.feedKeepsRow.holds Try.pinned (OpenSpec.ofChange Rows.feedKeepsSpec) :=
  OpenClaim.holds_of_wide 5 Try.f5 rfl rfl rfl rfl rfl rfl rfl ⟨rfl, rfl, rfl, rfl, rfl⟩ rfl rfl rfl rfl rfl (by kernel_rfl) Try.func5 (by kernel_rfl)
    (of_decide_eq_true (by kernel_rfl)) (by unfold Func.isWrapper; first | (rw [if_pos (by decide +kernel)]; kernel_rfl) | (rw [if_neg (by decide +kernel)]; exact ⟨rfl, rfl⟩))
    (fun os started H enc _ => lifted os started H enc)

theorem proved : Rows.FeedKeepsSaid := over
--ENDFRAME
end Go.Proofs.Ytalmdccgpigppaa.feedKeeps
