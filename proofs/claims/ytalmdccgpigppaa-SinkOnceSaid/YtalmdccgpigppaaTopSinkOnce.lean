/- SinkOnce: each number once. -/
import Derived.Test.YtalmdccgpigppaaPart27
import Derived.Test.YtalmdccgpigppaaPart25
import Derived.Deep.DeepCutAuto
import Derived.Deep.CutBlock
namespace Go.Proofs.Ytalmdccgpigppaa.sinkOnce
open Go.ChangeShapes Go.WideShapes Go.ChangeAt Go.RowKit
set_option linter.unusedVariables false
set_option linter.unusedSimpArgs false
def ST : TypeId := 151
set_option maxRecDepth 100000 in
set_option maxHeartbeats 16000000 in
theorem walk_main (A0 C0 : Option Addr) (n m0 c0 d0 : Nat) (ts : List Int) (l : List DoW) (w : World) (h0 : RI w A0 n ts) (hn : n ≤ maxLen) (h1 : DosW w C0 m0 l) (q1 : fewWB l = true) (hr : rightB ts = true) :
    Calls Try.prog 6 #[.slice A0 n c0, .slice C0 m0 d0] w fun e w' => e = .returned (.bool true) ∧ Below w.heap.size w w' := by
  have hq := fewWB_true q1
  rw [h1.1] at hq
  obtain ⟨hn40, hsm⟩ := hq
  have hf1 := fun w h => few36_any C0 m0 d0 l w h (by unfold maxLen; omega)
  rw [q1] at hf1
  have hri := fun W h => refright_any A0 n c0 ts W h hn
  rw [hr] at hri
  have Hsm := Lib.hid hsm
  have Hl1 := Lib.hid h1.1
  have w0 : F0.waits.length = 0 := f_waits.1
  have m1 : F0.many = 10 := f_many.1
  have hmd : ∀ w, Calls Try.prog 23 #[.slice none 0 0, .int .i64 10] w (Made35 w F0) := fun w => made35_ok none 0 0 [] 10 w ⟨rfl, Row.nil _ _ _⟩ (by omega) (by omega) (by omega) (by omega) (by show ((0 : Nat) : Int) ≤ 10; omega)
  obtain ⟨Db, e0, hst⟩ := startS ts hr
  have hopen : ∀ (D D2 : DiskV) (nx : Nat), D.many = 10 → D.waits.length = 0 → fOpenV D 1 8 4 ts = (D2, nx, 0) → ∀ (w : World) (base ga : Nat) (p : DiskP), AreaAt w ga p.d 1 8 → DiskS w base p D → base ≤ w.heap.size → IntsAt w base A0 n ts → Calls Try.prog 31 #[.pointer (some ⟨ga, 0, none⟩), .slice A0 n c0] w fun e w' => ∃ g, e = .returned (.tuple #[.pointer (some ⟨g, 0, none⟩), .int .i64 0]) ∧ w.heap.size ≤ g ∧ JRowsAt ST w' base g ga 4 nx ts ∧ DiskS w' base p D2 ∧ Step mutD base p w w' :=
    fun D D2 nx e1 e2 e3 _ _ _ _ ha hd hs ht => skopen_ok ha (by omega) hd hs (by rw [e1]; omega) (by rw [e2]; omega) A0 n c0 ht e3
  have hop := hopen F0 Db 0 m1 w0 e0
  have HST := Lib.hid hst
  have HOPEN := Lib.hid hopen
  clear hopen hsm hst
  generalize F0 = Da at *
  clear e0 w0 m1
  go_enter Try.func6, Try.ntmps6
  go_wp2_with (first
    | ((go_at_call 29; (with_reducible refine (awake36 _).mono ?_); rintro e w1 ⟨rfl, hb1⟩); have s1 := hb1.size; have HB1 := Lib.hid hb1; have R0 := Lib.hid (h0.below hb1 (Nat.le_refl _)); have R1 := Lib.hid (h1.below hb1 (Nat.le_refl _)); clear hb1)
    | ((go_at_call 30; (with_reducible refine (hf1 _ R1.out).mono ?_); rintro e w2 ⟨rfl, hb2⟩); have B2 := Lib.hid hb2; have s2 := hb2.size; have Q0 := Lib.hid (R0.out.below hb2 (Nat.le_refl _)); have Q1 := Lib.hid (R1.out.below hb2 (Nat.le_refl _)); clear hb2)
    | (go_at_call 22; (with_reducible refine (hri _ Q0.out).mono ?_); rintro e w3 ⟨rfl, rfl⟩)
    | ((go_at_call 23; (with_reducible refine (hmd w2).mono ?_); rintro e w3 ⟨p, ga, rfl, h3, a3, b3⟩); have H3 := Lib.hid h3; have A3 := Lib.hid a3; have s3 := b3.size; have B3 := Lib.hid b3; have T3 := Lib.hid (IntsAt.old Q0.out hn b3 (Nat.le_refl _)); clear h3 a3 b3)
    | ((go_at_call 31; (with_reducible refine (hop _ _ _ _ A3.out H3.out s3 T3.out).mono ?_); rintro e w4 ⟨gf, rfl, g4, j4, h4, st4⟩); have A4 := Lib.hid (H3.out.area A3.out st4.tch (by decide)); have B4 := Lib.hid (B3.out.trans st4.bel); have SE4 := Lib.hid (show SeatAt ST w2 w4 p ga gf 4 Db 0 ts from ⟨h4, A4.out, j4, B4.out⟩); have s4 := B4.out.size; clear h4 j4 st4)
    | fail "no arm")
  have HB := Lib.hid (HB1.out.trans (B2.out.mono s1))
  have R0Q := Lib.hid Q0.out
  have RD := Lib.hid Q1.out
  clear hmd hop hf1 hri B3 A3 H3 T3 A4 Q0 Q1 R0 R1 h0 h1
  generalize w2 = wb at *
  go_loopw [7, 8, 9, 10, 13, 14, 15, 16, 17, 18, 43] (fun f _ s su _ _ _ _ _ _ i wr => ∃ (k : Nat) (D : DiskV) (ks : Nat) (rows : List (List Int)) (gf : Nat) (B : Option Addr) (c : Nat), k ≤ m0 ∧ i = .int .i64 (k : Nat) ∧ f = .pointer (some ⟨gf, 0, none⟩) ∧ s = .slice B rows.length c ∧ su = .int .i64 (ks : Nat) ∧ SeatAt ST wb wr p ga gf 4 D rows.length ts ∧ RowsIn wr wb.heap.size wb.heap.size B rows.length c rows ∧ SkOn D ts ks rows) (fun _ _ _ _ _ _ _ _ _ _ i _ => m0 - (intOf i).toNat)
  case atStart => exact ⟨0, Db, 0, [], gf, none, 0, by omega, rfl, rfl, rfl, rfl, SE4.out, RowsIn.nil _ _ _, HST.out⟩
  case round =>
    obtain ⟨k, D, ks, rows, gf, B, c, hk, rfl, rfl, rfl, rfl, hse, hL, hph⟩ := hrel
    have hs := hse.size
    by_cases hlt : k < m0
    · obtain ⟨x, hx⟩ : ∃ x, l[k]? = some x := ⟨_, List.getElem?_eq_getElem (by rw [Hl1.out]; exact hlt)⟩
      obtain ⟨b, o, C, q, e, Bx, m, d, hA0, hrC, hqe, hem, hrB, hmd, hdm, hxn, hio, hget⟩ := RD.out.get hx
      obtain ⟨hb, e0, e1, e2, e3⟩ := hget wr _ hse.b (Nat.le_refl _)
      obtain ⟨hm200, hq20⟩ := Hsm.out x (List.mem_of_getElem? hx)
      have hqm : q ≤ 20 := by have := hrC.1; omega
      have hmm : m ≤ 200 := by have := hrB.1; omega
      have bX : Below wr.heap.size wr (wr.alloc (.cells #[.int .i64 x.kind, .int .i64 x.n, .slice C q e, .slice Bx m d] 78)) := (Below.refl _ _).alloc (Nat.le_refl _) _
      have HX := Lib.hid (show Blk (wr.alloc (.cells #[.int .i64 x.kind, .int .i64 x.n, .slice C q e, .slice Bx m d] 78)) wr.heap.size 78 (doW x C q e Bx m d) from Blk.top _ rfl rfl)
      have SE := Lib.hid (hse.below bX)
      have L := Lib.hid (hL.below bX)
      have hsX := SE.out.size
      have hle := hph.le
      have hC := fun (W : World) (hw : SeatAt ST wb W p ga gf 4 D rows.length ts) => skput_any hw.j hw.d hw.size hw.a (by rw [hph.many]; omega) (by omega) hle (by have := hph.few; omega) hr x.n C q e (l := x.l) (hrC.below hw.b (Nat.le_refl _)) (by unfold maxLen; omega) hio
      obtain ⟨D1, n1, fr, er, hput, hcase⟩ : ∃ D1 n1 fr er, sPutV D 1 8 4 rows.length ts x.n x.l = (D1, n1, fr, er) ∧ ((fr = false ∧ n1 = rows.length ∧ (er = 0 → x.n ≠ (rows.length : Int)) ∧ SkOn D1 ts ks rows) ∨ (fr = true ∧ er = 0 ∧ x.n = (rows.length : Int) ∧ n1 = rows.length + 1 ∧ SkOn D1 ts ks (rows ++ [x.l]))) := by
        rcases hph.put x.n hio with ⟨er, h1, h2⟩ | ⟨D1, h1, h2, h3⟩
        · exact ⟨_, _, _, _, h1, .inl ⟨rfl, rfl, h2, hph⟩⟩
        · exact ⟨_, _, _, _, h1, .inr ⟨rfl, rfl, h2, rfl, h3⟩⟩
      rw [hput] at hC
      simp only at hC
      have HIL := Lib.hid (fun (W : World) (hw : Below wb.heap.size wb W) => IntsAt.old hrC (by unfold maxLen; omega) hw (Nat.le_refl wb.heap.size))
      have HRB := Lib.hid hrB
      have HCASE := Lib.hid hcase
      clear hph hput hcase hio hrC hrB hget hse hL bX
      subst hA0
      go_upto_region 15 with (first
        | ((go_at_call 32; (with_reducible refine (hC _ SE.out).mono ?_); rintro e w6 ⟨rfl, h6, j6, st6⟩); have SE6 := Lib.hid (SE.out.stepJ h6 j6 st6 (by decide)); have L6 := Lib.hid (L.out.step SE.out.d st6 (by decide) (by decide)); have X6 := Lib.hid (SE.out.d.blk HX.out st6.tch (by decide)); have s6 := SE6.out.size; have y61 : w6.cell? ⟨wr.heap.size, 1, none⟩ = some (.int .i64 x.n) := X6.out.cell 1; clear h6 j6 st6)
        | fail "no arm")
      generalize hgx : wr.heap.size = gx at *
      clear SE L HX hC
      have hcl : x.l.length ≤ 20 := hq20
      go_cut [66] (fun v wx => v = .bool false ∧ w6 = wx)
      case first =>
        rcases HCASE.out with ⟨rfl, rfl, h3, h4⟩ | ⟨rfl, rfl, h3, h4, h5⟩
        · by_cases he : er = 0
          · subst he
            have hne : (x.n == (rows.length : Int)) = false := by rw [beq_eq_false_iff_ne]; exact h3 rfl
            clear h3 h4 HCASE
            go_wp2
            go_meet
            exact ⟨rfl, rfl⟩
          · have hnb : (er == 0) = false := by rw [beq_eq_false_iff_ne]; exact he
            clear h3 h4 HCASE
            go_wp2
            go_meet
            exact ⟨rfl, rfl⟩
        · have hne : (x.n == (rows.length : Int)) = true := by rw [beq_iff_eq]; exact h3
          clear h3 h4 h5 HCASE
          go_wp2
          go_meet
          exact ⟨rfl, rfl⟩
      case rest =>
        obtain ⟨rfl, rfl⟩ := hcut
        clear y61
        go_upto_if 67 with fail
        go_cut [9] (fun s wx => ∃ (B' : Option Addr) (c' : Nat) (all : List (List Int)), s = .slice B' all.length c' ∧ SeatAt ST wb wx p ga gf 4 D1 all.length ts ∧ RowsIn wx wb.heap.size wb.heap.size B' all.length c' all ∧ Blk wx gx 78 (doW x C q e Bx m d) ∧ SkOn D1 ts ks all)
        case first =>
          rcases HCASE.out with ⟨rfl, rfl, h3, h4⟩ | ⟨rfl, rfl, h3, rfl, h5⟩
          · have HON := Lib.hid h4
            clear h3 h4 HCASE
            go_wp2
            go_meet
            exact ⟨B, c, rows, rfl, SE6.out, L6.out, X6.out, HON.out⟩
          · have HON := Lib.hid h5
            have hx2 : w6.cell? ⟨gx, 2, none⟩ = some (.slice C q e) := X6.out.cell 2
            clear h3 h5 HCASE
            go_wp2_with (first
              | (at_builtin; have bA : Below w6.heap.size w6 (w6.alloc (.cells #[.slice C q e] 54)) := (Below.refl _ _).alloc (Nat.le_refl _) _; refine wpList_row (h := ⟨C, q, e⟩) (L := x.l) rfl rfl rfl (L6.out.below bA) rfl (Rd.of_block (l := [(⟨C, q, e⟩ : SlV)]) (heap_top _ _ rfl) rfl) (HIL.out _ (SE6.out.b.trans (bA.mono s6))) (SE6.out.d.below bA) (by omega) (Nat.le_refl _) (by have := bA.size; omega) ?_; intro A7 c7 w7 L7 st7 d7 s7; have SE7 := Lib.hid ((SE6.out.below bA).step d7 st7 (by decide) (by decide) (by decide) (by decide)); have X7 := Lib.hid ((SE6.out.below bA).d.blk (X6.out.below bA X6.out.lt) st7.tch (by decide)); have LL7 := Lib.hid L7; clear L7 st7 d7 bA)
              | fail "no arm")
            go_meet
            exact ⟨A7, c7, rows ++ [x.l], by simp, by simpa using SE7.out, by simpa using LL7.out, X7.out, HON.out⟩
        case rest =>
          obtain ⟨B2, c2, all, rfl, se2, l2, x2, hon2⟩ := hcut
          have hs2 := se2.size
          have HX2 := Lib.hid x2
          have SE2 := Lib.hid se2
          have L2 := Lib.hid l2
          have HO2 := Lib.hid hon2
          have hle2 := hon2.le
          have hlc2 := l2.len
          have y20 : wc.cell? ⟨gx, 0, none⟩ = some (.int .i64 x.kind) := x2.cell 0
          clear SE6 L6 X6 HCASE l2 se2 x2 hon2
          generalize wc = wm at *
          go_upto_region 19 with fail
          go_cut [80] (fun v wx => ∃ (D2 : DiskV) (k2 : Nat), v = .bool (x.kind == 3) ∧ k2 = (if x.kind = 3 then all.length else ks) ∧ SeatAt ST wb wx p ga gf 4 D2 all.length ts ∧ RowsIn wx wb.heap.size wb.heap.size B2 all.length c2 all ∧ Blk wx gx 78 (doW x C q e Bx m d) ∧ SkOn D2 ts k2 all)
          case first =>
            by_cases hk3 : x.kind = 3
            · have hkb : (x.kind == 3) = true := by rw [beq_iff_eq]; exact hk3
              have hfl := skflush_any SE2.out.j SE2.out.d SE2.out.size SE2.out.a
              obtain ⟨D2, e2, hon2⟩ := HO2.out.flush
              rw [e2] at hfl
              have HON2 := Lib.hid hon2
              clear e2 hon2 hk3
              go_wp2_with (first
                | ((go_at_call 33; (with_reducible refine (hfl).mono ?_); rintro e w7 ⟨rfl, h7, st7⟩); have SE7 := Lib.hid (SE2.out.step h7 st7 (by decide) (by decide) (by decide) (by decide)); have L7 := Lib.hid (L2.out.step SE2.out.d st7 (by decide) (by decide)); have X7 := Lib.hid (SE2.out.d.blk HX2.out st7.tch (by decide)); clear h7 st7)
                | fail "no arm")
              go_meet
              exact ⟨D2, all.length, by rw [hkb], by rw [if_pos (by simpa using hkb)], SE7.out, L7.out, X7.out, HON2.out⟩
            · have hkb : (x.kind == 3) = false := by rw [beq_eq_false_iff_ne]; exact hk3
              clear hk3
              go_wp2
              go_meet
              exact ⟨D1, ks, by rw [hkb], by rw [if_neg (by simpa using hkb)], SE2.out, L2.out, HX2.out, HO2.out⟩
          case rest =>
            obtain ⟨D2, k2, rfl, hk2, se3, l3, x3, hon3⟩ := hcut
            have hs3 := se3.size
            have HX3 := Lib.hid x3
            have SE3 := Lib.hid se3
            have L3 := Lib.hid l3
            have HO3 := Lib.hid hon3
            have hkl3 := hon3.len
            have y30 : wc.cell? ⟨gx, 0, none⟩ = some (.int .i64 x.kind) := x3.cell 0
            have y33 : wc.cell? ⟨gx, 3, none⟩ = some (.slice Bx m d) := x3.cell 3
            have HIT := Lib.hid (fun (W : World) (hw : Below wb.heap.size wb W) => IntsAt.old R0Q.out hn hw (Nat.le_refl wb.heap.size))
            clear SE2 L2 HX2 HO2 l3 se3 x3 hon3 y20
            generalize wc = wn at *
            go_upto_if 80 with fail
            go_cut [10] (fun su wx => su = .int .i64 (k2 : Nat) ∧ wn = wx)
            case first =>
              by_cases hk3 : x.kind = 3
              · have hkb : (x.kind == 3) = true := by rw [beq_iff_eq]; exact hk3
                rw [if_pos hk3] at hk2
                subst hk2
                clear hk3
                go_wp2
                go_meet
                exact ⟨rfl, rfl⟩
              · have hkb : (x.kind == 3) = false := by rw [beq_eq_false_iff_ne]; exact hk3
                rw [if_neg hk3] at hk2
                subst hk2
                clear hk3
                go_wp2
                go_meet
                exact ⟨rfl, rfl⟩
            case rest =>
            obtain ⟨rfl, rfl⟩ := hcut
            clear hk2
            go_upto_if 85 with fail
            go_cut [7, 8, 9, 10] (fun f _ s su wx => ∃ (D4 : DiskV) (k4 : Nat) (rows4 : List (List Int)) (g4 : Nat) (B4 : Option Addr) (c4 : Nat), f = .pointer (some ⟨g4, 0, none⟩) ∧ s = .slice B4 rows4.length c4 ∧ su = .int .i64 (k4 : Nat) ∧ SeatAt ST wb wx p ga g4 4 D4 rows4.length ts ∧ RowsIn wx wb.heap.size wb.heap.size B4 rows4.length c4 rows4 ∧ SkOn D4 ts k4 rows4)
            case first =>
              by_cases hk5 : x.kind = 5
              · have hkb : (x.kind == 5) = true := by rw [beq_iff_eq]; exact hk5
                have hcr := s_crash SE3.out.d hs3 Bx m d x.b (HRB.out.below SE3.out.b (Nat.le_refl _)) (fun h0 g hg => by obtain ⟨b9, o9, e9, h9, _⟩ := HRB.out.2 h0; rw [e9] at hg; simp only [Option.map_some, Option.some.injEq] at hg; omega) (by unfold maxLen; omega)
                have hc := HO3.out.crash x.b
                obtain ⟨D4, got, e4, hon4, hpre, hle1, hle2'⟩ := hc.opened
                have hop := HOPEN.out _ _ _ hc.many hc.waits e4
                have hgl8 := hon4.le
                have HON4 := Lib.hid hon4
                have HPRE := Lib.hid hpre
                generalize crashV D2 x.b = Dc4 at *
                clear e4 hon4 hpre hc hk5
                go_wp2_with (first
                  | ((go_at_call 14; (with_reducible refine (hcr).mono ?_); rintro e w5 ⟨rfl, h5, st5⟩); have SE5 := Lib.hid (SE3.out.step h5 st5 (by decide) (by decide) (by decide) (by decide)); have L5 := Lib.hid (L3.out.step SE3.out.d st5 (by decide) (by decide)); clear h5 st5)
                  | ((go_at_call 31; (with_reducible refine (hop _ _ _ _ SE5.out.a SE5.out.d SE5.out.size (HIT.out _ SE5.out.b)).mono ?_); rintro e w6 ⟨gk, rfl, g6, j6, h6, st6⟩); have SE6 := Lib.hid (SE5.out.stepJ h6 j6 st6 (by decide)); have L6 := Lib.hid (L5.out.step SE5.out.d st6 (by decide) (by decide)); have hlen := sklen_any SE6.out.j; clear h6 j6 st6)
                  | (go_at_call 34; (with_reducible refine (hlen).mono ?_); rintro e w7 ⟨rfl, rfl⟩)
                  | fail "no arm")
                go_meet
                exact ⟨D4, got.length, got, gk, B2, got.length, rfl, rfl, rfl, SE6.out, by have := L6.out.cut hle2'; rwa [← HPRE.out] at this, HON4.out⟩
              · have hkb : (x.kind == 5) = false := by rw [beq_eq_false_iff_ne]; exact hk5
                clear hk5
                go_wp2
                go_meet
                exact ⟨D2, k2, all, gf, B2, c2, rfl, rfl, rfl, SE3.out, L3.out, HO3.out⟩
            case rest =>
              obtain ⟨D4, k4, rows4, g4, B4, c4, rfl, rfl, rfl, se4, l4, hon4⟩ := hcut
              have hs4 := se4.size
              have SE4 := Lib.hid se4
              have L4 := Lib.hid l4
              have HO4 := Lib.hid hon4
              have hle4 := hon4.le
              have hlen := sklen_any se4.j
              clear SE3 L3 HX3 HO3 l4 se4 hon4 HRB HIL
              generalize wc = wk at *
              go_wp2_with (first
                | (go_at_call 34; (with_reducible refine (hlen).mono ?_); rintro e w7 ⟨rfl, rfl⟩)
                | fail "no arm")
              clear hlen
              go_loopw [15, 16, 17, 18, 126] (fun _ _ _ _ i w8 => ∃ (k' : Nat) (o8 : List Int), k' ≤ rows4.length ∧ i = .int .i64 (k' : Nat) ∧ SeatAt ST wb w8 p ga g4 4 { D4 with ops := o8 } rows4.length ts ∧ RowsIn w8 wb.heap.size wb.heap.size B4 rows4.length c4 rows4) (fun _ _ _ _ i _ => rows4.length - (intOf i).toNat)
              case atStart => exact ⟨0, D4.ops, by omega, rfl, SE4.out, L4.out⟩
              case round =>
                obtain ⟨k', o8, hk', rfl, se8, l8⟩ := hrel
                have hs8 := se8.size
                have SE8 := Lib.hid se8
                have L8 := Lib.hid l8
                by_cases hlt' : k' < rows4.length
                · have hget0 := (HO4.out.ops o8).get (List.getElem?_eq_getElem hlt')
                  have hget := skget_any SE8.out.j SE8.out.d hs8 SE8.out.a (by show 1 + 8 ≤ D4.many; rw [HO4.out.many]; omega) (by omega) (k' : Int)
                  rw [hget0] at hget
                  simp only [readV'] at hget
                  obtain ⟨_, _, _, hs9, hint, hcs⟩ := l8
                  have hrd : Rd slV wr B4 rows4.length hs9 := by
                    rcases hcs with q | q
                    · exact q.rd
                    · exact q.2.1
                  have hsl : k' < hs9.length := by rw [hrd.1]; exact hlt'
                  obtain ⟨b9, o9, hB4, hb9, c9⟩ := hrd.2.at_ hlt'
                  rw [getD_map hs9 k' hsl] at c9
                  have hI := hint k' _ _ (List.getElem?_eq_getElem hsl) (List.getElem?_eq_getElem hlt')
                  generalize hs9[k'] = hh at *
                  generalize rows4[k'] = row at *
                  obtain ⟨A1, nn1, d1⟩ := hh
                  simp only [slV] at c9 hI
                  have HI := Lib.hid hI
                  have SB := Lib.hid hB4
                  clear hget0 hint hcs hrd hI hsl se8
                  subst hB4
                  go_wp2_with (first
                    | ((go_at_call 35; (with_reducible refine (hget).mono ?_); rintro e w9 ⟨LL9, k9, d9, rfl, ow9, h9, st9⟩); have SE9 := Lib.hid (SE8.out.step h9 st9 (by decide) (by decide) (by decide) (by decide)); have L9 := Lib.hid (L8.out.step SE8.out.d st9 (by decide) (by decide)); have I9 := Lib.hid (HI.out.step SE8.out.d st9 (by decide)); have hsame := ints_any LL9 A1 k9 nn1 d9 d1 row row w9 ow9.rd.ri I9.out.ri (by have := ow9.cap; omega); rw [decide_eq_true (rfl : row = row)] at hsame; clear h9 st9 ow9)
                    | ((go_at_call 36; (with_reducible refine (hsame).mono ?_); rintro e w10 ⟨rfl, q10, rfl⟩))
                    | fail "no arm")
                  go_roundw
                  case rel => first
                    | exact ⟨k' + 1, _, by omega, by go_num, SE9.out.below (below_drewN (Below.refl _ _) q10), L9.out.below (below_drewN (Below.refl _ _) q10)⟩
                    | ((repeat apply Exists.intro); exact ⟨⟨k' + 1, _, by omega, by go_num, SE9.out.below (below_drewN (Below.refl _ _) q10), L9.out.below (below_drewN (Below.refl _ _) q10)⟩, rfl⟩)
                  case measure => simp [intOf]; omega
                · have hk9 : k' = rows4.length := by omega
                  clear se8 l8
                  subst hk9
                  go_wp2
                  go_roundw
                  case rel => first
                    | exact ⟨k + 1, _, k4, rows4, g4, B4, c4, by omega, by go_num, rfl, rfl, rfl, SE8.out, L8.out, HO4.out.ops o8⟩
                    | ((repeat apply Exists.intro); exact ⟨⟨k + 1, _, k4, rows4, g4, B4, c4, by omega, by go_num, rfl, rfl, rfl, SE8.out, L8.out, HO4.out.ops o8⟩, rfl⟩)
                  case measure => simp [intOf]; omega
    · have hk9 : k = m0 := by omega
      subst hk9
      have HSE := Lib.hid hse
      clear hse hL hph
      go_wp2
      go_ret
      exact ⟨rfl, HB.out.trans (HSE.out.b.mono (by have := B2.out.size; omega))⟩
set_option maxRecDepth 100000 in
set_option maxHeartbeats 8000000 in
theorem walk_no (A0 C0 : Option Addr) (n m0 c0 d0 : Nat) (ts : List Int) (l : List DoW) (w : World) (h0 : RI w A0 n ts) (hn : n ≤ maxLen) (h1 : DosW w C0 m0 l) (hm : m0 ≤ maxLen) (hc : fewWB l = false ∨ (fewWB l = true ∧ rightB ts = false)) :
    Calls Try.prog 6 #[.slice A0 n c0, .slice C0 m0 d0] w fun e w' => e = .returned (.bool true) ∧ Below w.heap.size w w' := by
  have hf1 := fun w h => few36_any C0 m0 d0 l w h hm
  have hri := fun W h => refright_any A0 n c0 ts W h hn
  rcases hc with q1 | ⟨q1, q2⟩
  · rw [q1] at hf1
    go_enter Try.func6, Try.ntmps6
    go_wp2_with (first
      | ((go_at_call 29; (with_reducible refine (awake36 _).mono ?_); rintro e w1 ⟨rfl, hb1⟩); have s1 := hb1.size; have HB1 := Lib.hid hb1; have R1 := Lib.hid (h1.below hb1 (Nat.le_refl _)); clear hb1)
      | ((go_at_call 30; (with_reducible refine (hf1 _ R1.out).mono ?_); rintro e w2 ⟨rfl, hb2⟩); have HB2 := Lib.hid (HB1.out.trans (hb2.mono s1)); clear hb2)
      | fail "no arm")
    go_ret
    exact ⟨rfl, HB2.out⟩
  · rw [q1] at hf1
    rw [q2] at hri
    go_enter Try.func6, Try.ntmps6
    go_wp2_with (first
      | ((go_at_call 29; (with_reducible refine (awake36 _).mono ?_); rintro e w1 ⟨rfl, hb1⟩); have s1 := hb1.size; have HB1 := Lib.hid hb1; have R0 := Lib.hid (h0.below hb1 (Nat.le_refl _)); have R1 := Lib.hid (h1.below hb1 (Nat.le_refl _)); clear hb1)
      | ((go_at_call 30; (with_reducible refine (hf1 _ R1.out).mono ?_); rintro e w2 ⟨rfl, hb2⟩); have HB2 := Lib.hid (HB1.out.trans (hb2.mono s1)); have Q0 := Lib.hid (R0.out.below hb2 (Nat.le_refl _)); clear hb2)
      | (go_at_call 22; (with_reducible refine (hri _ Q0.out).mono ?_); rintro e w3 ⟨rfl, rfl⟩)
      | fail "no arm")
    go_ret
    exact ⟨rfl, HB2.out⟩
theorem walk (w : World) (A0 : Option Addr) (n c0 : Nat) (ts : List Int) (h0 : RI w A0 n ts) (nc : n ≤ c0) (cm : c0 ≤ maxLen) (hz : ∀ z ∈ ts, -9223372036854775808 ≤ z ∧ z ≤ 9223372036854775807) (v1 : Value) (x1 : ∃ A n c l, v1 = .slice A n c ∧ DosW w A n l ∧ n ≤ c ∧ c ≤ maxLen) :
    Calls Try.prog 6 #[.slice A0 n c0, v1] w fun e w' => e = .returned (.bool true) ∧ Below w.heap.size w w' := by
  obtain ⟨C0, m0, d0, l, rfl, r1, nc1, cm1⟩ := x1
  cases q : fewWB l with
  | false => exact walk_no A0 C0 n m0 c0 d0 ts l w h0 (by omega) r1 (by omega) (.inl q)
  | true =>
    cases hr : rightB ts with
    | false => exact walk_no A0 C0 n m0 c0 d0 ts l w h0 (by omega) r1 (by omega) (.inr ⟨q, hr⟩)
    | true => exact walk_main A0 C0 n m0 c0 d0 ts l w h0 (by omega) r1 q hr

--FRAME tompionlaw36 SinkOnce sinkOnce walk ints raw:[]tompionlaw36.Do:args_dos36:.slice‹_›none‹_›0‹_›0
theorem own : ownKnob Try.prog.godebug = none := by kernel_rfl
theorem laidOut : laidOutB Try.prog = true := by kernel_rfl

set_option maxRecDepth 100000 in
theorem lifted (os : Os) (started : os.Started) (H : Type) (enc : TypeId × Value → H) :
    ReturnsInHanded {} Try.checked os 6 .any (Rows.sinkOnceSpec.pre6 enc Try.prog Try.f6 Rows.sinkOnceRow.domain false) (Rows.sinkOnceSpec.post enc Try.prog Try.f6 false true false false) := by
  refine returnsInHanded_of_change (C := Try.checked) own started (by kernel_rfl) Try.func6
    (ChangeSpec.witness6 (enc := enc) (C := Try.checked) false ⟨#[], #[.slice none 0 0, .slice none 0 0], []⟩ 8 (by kernel_rfl) (by kernel_rfl) (by kernel_rfl) (by kernel_rfl)) ?_
  intro W base args ds gs before hval0 hW hcnd _
  have hval : ∀ (j : Nat) t v, Try.f6.params[j]? = some t → args[j]? = some v → Value.okWide Try.prog W .any base t v := hval0
  have hW' := hW
  obtain ⟨p, q, hA0, hV, rfl, hfz, hnd⟩ := hW
  have hA : DataW.TrodAll enc Try.prog W 0 (fun _ => true) true Try.f6.params.toList args.toList ds p := hA0
  rw [Try.params6] at hA hval
  obtain ⟨v0, vs0, d0, ds0, p0, q0, hargs, rfl, rfl, h0, rr0⟩ := trodAll_cons hA
  obtain ⟨v1, vs1, d1, ds1, p1, q1, rfl, rfl, rfl, h1, rr1⟩ := trodAll_cons rr0
  obtain ⟨rfl, rfl, rfl⟩ := trodAll_nil rr1
  obtain rfl : args = #[v0, v1] := by cases args; simp_all
  obtain ⟨rfl, rfl⟩ := trodVars_none hV
  have k0 := h0
  have lt0 : ∀ x ∈ p0, x.block < W.heap.size := by obtain ⟨m, hm⟩ := k0; exact DataW.trod_lt m _ _ _ hm
  obtain ⟨A0, n0, c0, l0, rfl, r0, nc0, cm0, wf0⟩ := args_ints Try.underlying54 Try.underlying3 (by kernel_rfl) (hval 0 54 v0 rfl rfl) h0
  have k1 := h1
  have lt1 : ∀ x ∈ p1, x.block < W.heap.size := by obtain ⟨m, hm⟩ := k1; exact DataW.trod_lt m _ _ _ hm
  have x1 := args_dos36 (hval 1 73 v1 rfl rfl) h1
  clear hA0 hval0
  refine (walk W A0 n0 c0 l0 r0 nc0 cm0 wf0 v1 x1).mono fun e W' ⟨he, bel⟩ => ?_
  subst he
  exact ⟨_, rfl, _, _, _, [], _, [], hW', trodAll_mk1 (shut_bool Try.underlying4 _), (trodAll_cons_mk (Below.trod laidOut (by kernel_rfl) (of_decide_eq_true (by kernel_rfl)) k0 bel lt0) (trodAll_cons_mk (Below.trod laidOut (by kernel_rfl) (of_decide_eq_true (by kernel_rfl)) k1 bel lt1) trodAll_mk0)), rfl, bel.frame _, fun h => by cases h⟩

theorem over : Rows.sinkOnceRow.holds Try.pinned (OpenSpec.ofChange Rows.sinkOnceSpec) :=
  OpenClaim.holds_of_wide 6 Try.f6 rfl rfl rfl rfl rfl rfl rfl ⟨rfl, rfl, rfl, rfl, rfl⟩ rfl rfl rfl rfl rfl (by kernel_rfl) Try.func6 (by kernel_rfl)
    (of_decide_eq_true (by kernel_rfl)) (by unfold Func.isWrapper; first | (rw [if_pos (by decide +kernel)]; kernel_rfl) | (rw [if_neg (by decide +kernel)]; exact ⟨rfl, rfl⟩))
    (fun os started H enc _ => lifted os started H enc)

theorem proved : Rows.SinkOnceSaid := over
--ENDFRAME
end Go.Proofs.Ytalmdccgpigppaa.sinkOnce
