/- JournalWhole: what was flushed is there, without a gap, wherever the power goes. -/
import Derived.Test.YtninidpbchcliaaWholeA
import Derived.Deep.DeepCutAuto
import Derived.Deep.CutBlock
namespace Go.Proofs.Ytninidpbchcliaa.journalWhole
open Go.ChangeShapes Go.WideShapes Go.ChangeAt Go.RowKit
set_option linter.unusedVariables false
set_option linter.unusedSimpArgs false
set_option maxRecDepth 100000 in
set_option maxHeartbeats 8000000 in
theorem walk_main (A0 C0 : Option Addr) (n m0 c0 d0 : Nat) (l : List DoV) (ls : List (List UInt8)) (w : World) (h1 : DosRd w A0 n l) (h2 : LsRd w C0 m0 ls) (q1 : few9B l = true) (hm0 : m0 ≤ 20) :
    Calls Try.prog 9 #[.slice A0 n c0, .slice C0 m0 d0] w fun e w' => e = .returned (.bool true) ∧ Below w.heap.size w w' := by
  have hq := few9B_true q1
  rw [h1.1] at hq
  obtain ⟨hn40, hsm⟩ := hq
  have hf1 := fun w h => few9_any A0 n c0 l w h (by unfold maxLen; omega)
  rw [q1] at hf1
  have Hsm := Lib.hid hsm
  have Hl1 := Lib.hid h1.1
  have Hl2 := Lib.hid h2.1
  obtain ⟨f1, _⟩ := d9_facts
  have w0 : D9a.waits.length = 0 := by decide +kernel
  have m1 : D9a.many = 10 := by decide +kernel
  have hmd : ∀ w, Calls Try.prog 50 #[.slice none 0 0, .int .i64 10] w (Made9 w D9a) := fun w => made9_ok none 0 0 [] 10 w ⟨rfl, Row.nil _ _ _⟩ (by omega) (by omega) (by omega) (by omega) (by show ((0 : Nat) : Int) ≤ 10; omega)
  have hc1 : ∀ {w : World} {base ga : Nat} {p : DiskP}, AreaAt w ga p.d 1 8 → DiskS w base p D9a → base ≤ w.heap.size → Calls Try.prog 51 #[.pointer (some ⟨ga, 0, none⟩), .int .i64 3] w fun e w' => ∃ gj, e = .returned (.tuple #[.pointer (some ⟨gj, 0, none⟩), .int .i64 0]) ∧ w.heap.size ≤ gj ∧ JrnAt w' gj ga 3 0 ∧ DiskS w' base p D9b ∧ Step mutD base p w w' :=
    fun ha hd hs => jopen_ok (kind := 3) ha (by omega) hd hs (by rw [m1]; omega) (by rw [w0]; omega) (D' := D9b) (next := 0) (by show ((jOpenV D9a 1 8 3).1, (jOpenV D9a 1 8 3).2) = _; rw [f1]; rfl)
  have HPH := Lib.hid start9
  generalize D9b = Db at *
  generalize D9a = Da at *
  clear f1 w0 m1 hsm
  go_enter Try.func9, Try.ntmps9
  go_wp2_with (first
    | ((go_at_call 48; (with_reducible refine (awake9 _).mono ?_); rintro e w1 ⟨rfl, hb1⟩); have s1 := hb1.size; have HB1 := Lib.hid hb1; have R1 := Lib.hid (h1.below hb1 (Nat.le_refl _)); have R2 := Lib.hid (h2.below hb1 (Nat.le_refl _)))
    | ((go_at_call 49; (with_reducible refine (hf1 _ R1.out).mono ?_); rintro e w2 ⟨rfl, hb2⟩); have B2 := Lib.hid hb2; have s2 := hb2.size; clear hb2)
    | fail "no arm")
  go_loopw [6, 34] (fun _ i wr => ∃ k : Nat, k ≤ m0 ∧ i = .int .i64 (k : Nat) ∧ (∀ (j : Nat) (c : List UInt8), j < k → ls[j]? = some c → c.length ≤ 200) ∧ wr = w2) (fun _ i _ => m0 - (intOf i).toNat)
  case atStart => exact ⟨0, by omega, rfl, fun j x hj => absurd hj (by omega), rfl⟩
  case round =>
    obtain ⟨kc, hk, rfl, hsh, rfl⟩ := hrel
    have HSH := Lib.hid hsh
    clear hsh
    by_cases hlt : kc < m0
    · obtain ⟨_, hs, hrd, hcell⟩ := R2.out.below B2.out (Nat.le_refl _)
      have hsl : kc < hs.length := by rw [hrd.1]; exact hlt
      have hll : kc < ls.length := by rw [Hl2.out]; exact hlt
      obtain ⟨r1, x1⟩ := hcell kc _ _ (List.getElem?_eq_getElem hsl) (List.getElem?_eq_getElem hll)
      obtain ⟨b1, o1, hB1, hb1, c1⟩ := hrd.2.at_ hlt
      rw [getD_map hs kc hsl] at c1
      have e1 := Lib.hid (List.getElem?_eq_getElem hll)
      generalize hs[kc] = hh at *
      generalize ls[kc] = L at *
      obtain ⟨A1, n1, d1⟩ := hh
      simp only [slV] at c1 r1 x1
      have Hr := Lib.hid r1.1
      have hx1 : n1 ≤ 9223372036854775807 := by unfold maxLen at x1; omega
      clear hcell hrd r1 x1
      subst hB1
      by_cases hbig : 200 < n1
      · go_wp2
        go_ret
        exact ⟨rfl, (HB1.out.trans (B2.out.mono s1))⟩
      · have hsh2 : Hid (∀ (j : Nat) (c : List UInt8), j < kc + 1 → ls[j]? = some c → c.length ≤ 200) := fun j c hj hc => by
          rcases Nat.lt_or_ge j kc with q | q
          · exact HSH.out j c q hc
          · have : j = kc := by omega
            subst this
            rw [e1.out] at hc
            injection hc with hc
            rw [← hc, Hr.out]; omega
        go_wp2
        go_roundw
        case rel => first
          | exact ⟨kc + 1, by omega, by go_num, hsh2.out, trivial⟩
          | ((repeat apply Exists.intro); exact ⟨⟨kc + 1, by omega, by go_num, hsh2.out, trivial⟩, rfl⟩)
        case measure => simp [intOf]; omega
    · have hk9 : m0 = kc := by omega
      subst hk9
      have hshort : Hid (∀ (j : Nat) (c : List UInt8), ls[j]? = some c → c.length ≤ 200) := fun j c hc => HSH.out j c (by have := (List.getElem?_eq_some_iff.1 hc).1; rw [Hl2.out] at this; exact this) hc
      clear HSH
      have RD := Lib.hid (R1.out.below B2.out (Nat.le_refl _))
      have RC := Lib.hid (R2.out.below B2.out (Nat.le_refl _))
      go_wp2_with (first
        | ((go_at_call 50; (with_reducible refine (hmd wr).mono ?_); rintro e w3 ⟨p, ga, rfl, h3, a3, b3⟩); have H3 := Lib.hid h3; have A3 := Lib.hid a3; have s3 := b3.size; have B3 := Lib.hid b3; clear h3 a3 b3)
        | ((go_at_call 51; (with_reducible refine (hc1 A3.out H3.out s3).mono ?_); rintro e w4 ⟨gj, rfl, g4, j4, h4, st4⟩); have A4 := Lib.hid (H3.out.area A3.out st4.tch (by decide)); have B4 := Lib.hid (B3.out.trans st4.bel); have H4 := Lib.hid h4; have J4 := Lib.hid j4; have s4 := B4.out.size; clear h4 j4 st4)
        | fail "no arm")
      have HB := Lib.hid (HB1.out.trans (B2.out.mono s1))
      clear hmd hc1 hf1 B3 A3 H3
      generalize wr = wb at *
      go_loopw [9, 10, 11, 12, 13, 15, 16, 17, 18, 19, 20, 21, 55] (fun j _ s a cr _ _ _ _ _ _ _ i wr => ∃ k : Nat, k ≤ n ∧ i = .int .i64 (k : Nat) ∧ RelJ wb ga p k j s a cr wr) (fun _ _ _ _ _ _ _ _ _ _ _ _ i _ => n - (intOf i).toNat)
      case atStart => exact ⟨0, by omega, rfl, Db, [], [], none, none, 0, 0, 0, 0, gj, 0, rfl, by omega, rfl, rfl, rfl, by omega, H4.out, A4.out, J4.out, Lists.nil _ _, B4.out, HPH.out⟩
      case round =>
        obtain ⟨k, hk, rfl, D, sure, all, sB, aB, sN, sc, aN, ac, gj, cn, rfl, hgj, rfl, rfl, rfl, hcn, hd, ha, hj, hL, hbel, hph⟩ := hrel
        have hbs := hbel.size
        have HD := Lib.hid hd
        have HA := Lib.hid ha
        have HJ := Lib.hid hj
        have HL := Lib.hid hL
        have HB5 := Lib.hid hbel
        have HP := Lib.hid hph
        clear hd ha hj hL hph hbel
        by_cases hlt : k < n
        · obtain ⟨x, hx⟩ : ∃ x, l[k]? = some x := ⟨_, List.getElem?_eq_getElem (by rw [Hl1.out]; exact hlt)⟩
          obtain ⟨b, o, B, m, d, hA0, hr, hmd, hdm, hxn, hget⟩ := RD.out.get hx
          obtain ⟨hb, e0, e1, e2⟩ := hget wr _ HB5.out (Nat.le_refl _)
          have hm200 : x.b.length ≤ 200 := Hsm.out x (List.mem_of_getElem? hx)
          have hmB : m = x.b.length := hr.1.symm
          have hm2 : m ≤ 200 := by omega
          have Hr := Lib.hid hr
          have Hmb := Lib.hid hmB
          clear hr hmB hx hget hm200 hmd hdm
          subst hA0
          go_upto_block 4 with fail
          go_cut [11, 12] (fun s a wx => Mid wb ga gj wr.heap.size p x B m d s a wx)
          case first =>
            have bX : Below wr.heap.size wr (wr.alloc (.cells #[.int .i64 x.kind, .int .i64 x.n, .slice B m d] 94)) := (Below.refl _ _).alloc (Nat.le_refl _) _
            have HX := Lib.hid (show Blk (wr.alloc (.cells #[.int .i64 x.kind, .int .i64 x.n, .slice B m d] 94)) wr.heap.size 94 (doC x B m d) from Blk.top _ rfl rfl)
            have HD2 := Lib.hid (HD.out.below bX)
            have HA2 := Lib.hid (HA.out.alloc (.cells #[.int .i64 x.kind, .int .i64 x.n, .slice B m d] 94))
            have HJ2 := Lib.hid (HJ.out.alloc (.cells #[.int .i64 x.kind, .int .i64 x.n, .slice B m d] 94))
            have HL2 := Lib.hid (HL.out.below bX)
            have HB2 := Lib.hid (HB5.out.trans (bX.mono hbs))
            have hsX := HB2.out.size
            have BX := Lib.hid bX
            clear bX
            by_cases k1 : x.kind = 1
            · have kB : (x.kind == 1) = true := by rw [k1]; rfl
              clear k1
              obtain ⟨D', nx, v, er, hadd, hcase, hal8⟩ := HP.out.added x.b
              have hcap := HL2.out.cap
              have hC := jadd_any (B := B) (k := m) (d := d) (l := x.b) HJ2.out HD2.out hsX hgj HA2.out (by rw [HP.out.many]; omega) (by omega) hal8 (by have := HP.out.few; omega) (Hr.out.below HB2.out (Nat.le_refl _)) (by unfold maxLen; omega)
              rw [hadd] at hC
              simp only at hC
              have hBA : ∀ {W : World}, Below wb.heap.size wb W → BytesAt W wb.heap.size ⟨B, m, d⟩ x.b := fun h => BytesAt.old (h := ⟨B, m, d⟩) Hr.out (by show m ≤ maxLen; unfold maxLen; omega) h (Nat.le_refl _)
              have HAL := Lib.hid hcap.2.2.2.2
              clear hadd
              rcases hcase with ⟨hv, hm⟩ | ⟨hv, hD, hn⟩
              · have HM := Lib.hid hm
                clear hm
                rcases hv with hv | hv
                all_goals
                  subst hv
                  go_wp2_with (first
                    | ((go_at_call 52; (with_reducible refine (hC).mono ?_); rintro e w5 ⟨rfl, h5, j5, st5⟩); have L5 := Lib.hid (HL2.out.step HD2.out st5 (by decide) (by decide)); have A5 := Lib.hid (HD2.out.area HA2.out st5.tch (by decide)); have B5 := Lib.hid (HB2.out.trans st5.bel); have X5 := Lib.hid (HD2.out.blk HX.out st5.tch (by decide)); have H5 := Lib.hid h5; have J5 := Lib.hid j5; have s5 := B5.out.size; have y5 : w5.cell? ⟨wr.heap.size, 2, none⟩ = some (.slice B m d) := X5.out.cell 2; clear h5 j5 st5)
                    | (at_builtin; have bA : Below w5.heap.size w5 (w5.alloc (.cells #[.slice B m d] 23)) := (Below.refl _ _).alloc (Nat.le_refl _) _; obtain ⟨hs6, ho6, happ6⟩ := (L5.out.below bA).app (h := ⟨B, m, d⟩) (L := x.b) (hBA (B5.out.trans (bA.mono s5))); refine wpList_app_old rfl rfl elemHdr slV_one (s := .tmp 76) (N := aN + 1) (L := hs6 ++ [⟨B, m, d⟩]) rfl ho6 rfl (k := [⟨B, m, d⟩]) (hdr_rd w5 ⟨B, m, d⟩) rfl rfl (by unfold maxLen; omega) (by omega) (by first | omega | (simp; done) | (simp; omega)) ?_; intro A6 c6 w6 hown6 hg6 hat6 hb6; have L6 := Lib.hid (happ6 A6 c6 w6 hown6 hg6 hat6); have D6 := Lib.hid ((H5.out.below bA).grown ho6 hg6 (by decide)); have G6 := Lib.hid (show AreaAt w6 ga p.d 1 8 from Blk.grown (Blk.alloc A5.out _) hg6 (ho6.ne_ (Blk.alloc A5.out _) (by decide))); have J6 := Lib.hid (show JrnAt w6 gj ga 3 nx from Blk.grown (Blk.alloc J5.out _) hg6 (ho6.ne_ (Blk.alloc J5.out _) (by decide))); have X6 := Lib.hid (Blk.grown (Blk.alloc X5.out _) hg6 (ho6.ne_ (Blk.alloc X5.out _) (by decide))); have B6 := Lib.hid ((B5.out.trans (bA.mono s5)).trans hb6); clear hown6 hg6 hat6 hb6 happ6 ho6 bA)
                    | fail "no arm")
                  go_meet
                  exact ⟨_, _, sure, all ++ [x.b], sB, A6, sN, sc, aN + 1, c6, rfl, rfl, D6.out, G6.out, J6.out, L6.out, B6.out, X6.out, HM.out⟩
              · subst hD hn
                rcases hv with hv | hv
                all_goals
                  subst hv
                  go_wp2_with (first
                    | ((go_at_call 52; (with_reducible refine (hC).mono ?_); rintro e w5 ⟨rfl, h5, j5, st5⟩); have H5 := Lib.hid h5; have J5 := Lib.hid j5; have ST5 := Lib.hid st5; clear h5 j5 st5)
                    | fail "no arm")
                  go_meet
                  exact ⟨_, _, sure, all, sB, aB, sN, sc, aN, ac, rfl, rfl, H5.out, HD2.out.area HA2.out ST5.out.tch (by decide), J5.out, HL2.out.step HD2.out ST5.out (by decide) (by decide), HB2.out.trans ST5.out.bel, HD2.out.blk HX.out ST5.out.tch (by decide), HP.out.m⟩
            · by_cases k2 : x.kind = 2
              · have kB : (x.kind == 1) = false := by rw [k2]; rfl
                have kB2 : (x.kind == 2) = true := by rw [k2]; rfl
                clear k1 k2
                have hC := jflush_any HJ2.out HD2.out hsX HA2.out
                have hfl := HP.out.flushed
                generalize flushV D = FV at *
                obtain ⟨D', er⟩ := FV
                simp only at hfl hC
                rcases hfl with ⟨hv, hm⟩ | ⟨hv, hm⟩
                · subst hv
                  have HM := Lib.hid hm
                  clear hm
                  go_wp2_with (first
                    | ((go_at_call 53; (with_reducible refine (hC).mono ?_); rintro e w5 ⟨rfl, h5, st5⟩); have H5 := Lib.hid h5; have ST5 := Lib.hid st5; clear h5 st5)
                    | fail "no arm")
                  go_meet
                  exact ⟨_, _, all, all, aB, aB, aN, ac, aN, ac, rfl, rfl, H5.out, HD2.out.area HA2.out ST5.out.tch (by decide), HJ2.out.touch HD2.out ST5.out.tch (by decide), (HL2.out.step HD2.out ST5.out (by decide) (by decide)).same, HB2.out.trans ST5.out.bel, HD2.out.blk HX.out ST5.out.tch (by decide), HM.out⟩
                · subst hv
                  have HM := Lib.hid hm
                  clear hm
                  go_wp2_with (first
                    | ((go_at_call 53; (with_reducible refine (hC).mono ?_); rintro e w5 ⟨rfl, h5, st5⟩); have H5 := Lib.hid h5; have ST5 := Lib.hid st5; clear h5 st5)
                    | fail "no arm")
                  go_meet
                  exact ⟨_, _, sure, all, sB, aB, sN, sc, aN, ac, rfl, rfl, H5.out, HD2.out.area HA2.out ST5.out.tch (by decide), HJ2.out.touch HD2.out ST5.out.tch (by decide), HL2.out.step HD2.out ST5.out (by decide) (by decide), HB2.out.trans ST5.out.bel, HD2.out.blk HX.out ST5.out.tch (by decide), HM.out⟩
              · have kB : (x.kind == 1) = false := by rw [beq_eq_false_iff_ne]; exact k1
                have kB2 : (x.kind == 2) = false := by rw [beq_eq_false_iff_ne]; exact k2
                by_cases k3 : x.kind = 3 ∨ x.kind = 4
                · have hC := s_cut HD2.out hsX x.n hxn.2
                  have hM := (HP.out.cutTo (max x.n (-1)) (by omega) (by have := hxn.2; omega)).m
                  generalize ({ D with cut := max x.n (-1) } : DiskV) = D' at *
                  have HM := Lib.hid hM
                  clear hM k1 k2
                  rcases k3 with k3 | k3
                  · have kB3 : (x.kind == 3) = true := by rw [k3]; rfl
                    clear k3
                    go_wp2_with (first
                      | ((go_at_call 27; (with_reducible refine (hC).mono ?_); rintro e w5 ⟨rfl, h5, st5⟩); have H5 := Lib.hid h5; have ST5 := Lib.hid st5; clear h5 st5)
                      | fail "no arm")
                    go_meet
                    exact ⟨_, _, sure, all, sB, aB, sN, sc, aN, ac, rfl, rfl, H5.out, HD2.out.area HA2.out ST5.out.tch (by decide), HJ2.out.touch HD2.out ST5.out.tch (by decide), HL2.out.step HD2.out ST5.out (by decide) (by decide), HB2.out.trans ST5.out.bel, HD2.out.blk HX.out ST5.out.tch (by decide), HM.out⟩
                  · have kB3 : (x.kind == 3) = false := by rw [k3]; rfl
                    have kB4 : (x.kind == 4) = true := by rw [k3]; rfl
                    clear k3
                    go_wp2_with (first
                      | ((go_at_call 27; (with_reducible refine (hC).mono ?_); rintro e w5 ⟨rfl, h5, st5⟩); have H5 := Lib.hid h5; have ST5 := Lib.hid st5; clear h5 st5)
                      | fail "no arm")
                    go_meet
                    exact ⟨_, _, sure, all, sB, aB, sN, sc, aN, ac, rfl, rfl, H5.out, HD2.out.area HA2.out ST5.out.tch (by decide), HJ2.out.touch HD2.out ST5.out.tch (by decide), HL2.out.step HD2.out ST5.out (by decide) (by decide), HB2.out.trans ST5.out.bel, HD2.out.blk HX.out ST5.out.tch (by decide), HM.out⟩
                · have kB3 : (x.kind == 3) = false := by rw [beq_eq_false_iff_ne]; omega
                  have kB4 : (x.kind == 4) = false := by rw [beq_eq_false_iff_ne]; omega
                  clear k1 k2 k3
                  go_wp2
                  go_meet
                  exact ⟨_, _, sure, all, sB, aB, sN, sc, aN, ac, rfl, rfl, HD2.out, HA2.out, HJ2.out, HL2.out, HB2.out, HX.out, HP.out.m⟩
          case rest =>
            obtain ⟨D2, nx, sure2, all2, sB2, aB2, sN2, sc2, aN2, ac2, rfl, rfl, hd2, ha2, hj2, hL2, hbel2, hx2, hm2⟩ := hcut
            clear HD HA HJ HL HP HB5
            generalize wr.heap.size = gx at *
            have y0 : wc.cell? ⟨gx, 0, none⟩ = some (.int .i64 x.kind) := hx2.cell 0
            have hsC := hbel2.size
            have hon := s_on hd2
            have HD2 := Lib.hid hd2
            have HA2 := Lib.hid ha2
            have HJ2 := Lib.hid hj2
            have HL2 := Lib.hid hL2
            have HB2 := Lib.hid hbel2
            have HX2 := Lib.hid hx2
            have HM2 := Lib.hid hm2
            have hal9 := hL2.cap
            have HAL := Lib.hid hal9
            clear hd2 ha2 hj2 hL2 hbel2 hx2 hm2 hal9
            generalize wc = wm at *
            go_upto_region 31 with fail
            go_cut [100] (fun v wx => v = .bool (!D2.off && decide (x.kind < 5)) ∧ wm = wx)
            case first =>
              cases ho : D2.off with
              | true =>
                rw [ho] at hon
                have HO := Lib.hid ho
                clear ho
                go_wp2_with (first
                  | (go_at_call 29; (with_reducible refine (hon).mono ?_); rintro e w5 ⟨rfl, rfl⟩)
                  | fail "no arm")
                go_meet
                exact ⟨by rw [HO.out]; rfl, rfl⟩
              | false =>
                rw [ho] at hon
                have HO := Lib.hid ho
                clear ho
                by_cases hk5 : x.kind < 5
                · have kB5 : decide (x.kind < 5) = true := decide_eq_true hk5
                  go_wp2_with (first
                    | (go_at_call 29; (with_reducible refine (hon).mono ?_); rintro e w5 ⟨rfl, rfl⟩)
                    | fail "no arm")
                  go_meet
                  exact ⟨by rw [HO.out, kB5]; rfl, rfl⟩
                · have kB5 : decide (x.kind < 5) = false := decide_eq_false hk5
                  go_wp2_with (first
                    | (go_at_call 29; (with_reducible refine (hon).mono ?_); rintro e w5 ⟨rfl, rfl⟩)
                    | fail "no arm")
                  go_meet
                  exact ⟨by rw [HO.out, kB5]; rfl, rfl⟩
            case rest =>
              obtain ⟨rfl, rfl⟩ := hcut
              cases hcont : (!D2.off && decide (x.kind < 5)) with
              | true =>
                have ho : D2.off = false := by
                  cases q : D2.off with
                  | false => rfl
                  | true => rw [q] at hcont; cases hcont
                obtain ⟨hp2, hnx⟩ := HM2.out.on ho
                have HP2 := Lib.hid hp2
                have HNX := Lib.hid hnx
                clear hp2 hnx ho hcont hon
                go_wp2
                go_roundw
                case rel => first
                  | exact ⟨k + 1, by omega, by go_num, D2, sure2, all2, sB2, aB2, sN2, sc2, aN2, ac2, gj, cn, rfl, hgj, rfl, rfl, rfl, by omega, HD2.out, HA2.out, by rw [← HNX.out]; exact HJ2.out, HL2.out, HB2.out, HP2.out⟩
                  | ((repeat apply Exists.intro); exact ⟨⟨k + 1, by omega, by go_num, D2, sure2, all2, sB2, aB2, sN2, sc2, aN2, ac2, gj, cn, rfl, hgj, rfl, rfl, rfl, by omega, HD2.out, HA2.out, by rw [← HNX.out]; exact HJ2.out, HL2.out, HB2.out, HP2.out⟩, rfl⟩)
                case measure => simp [intOf]; omega
              | false =>
                clear hcont hon
                go_upto_block 5 with fail
                go_cut [9, 13] (fun j cr wx => Opn wb ga p sB2 aB2 sN2 aN2 ac2 sure2 all2 k j cr wx)
                case first =>
                  go_wp2_with fail
                  go_loopw [9, 10, 13, 18, 19] (fun j e cr t c w2 => ∃ (t' cn' : Nat) (D3 : DiskV), t' ≤ 1 ∧ t = .int .i64 (t' : Nat) ∧ cr = .int .i64 (cn' : Nat) ∧ cn' ≤ 2 * k + t' ∧ DiskS w2 wb.heap.size p D3 ∧ AreaAt w2 ga p.d 1 8 ∧ Lists w2 wb.heap.size sB2 sN2 aB2 aN2 ac2 sure2 all2 ∧ Below wb.heap.size wb w2 ∧ Blk w2 gx 94 (doC x B m d) ∧ ∀ cs, PhC (crashV D3 cs) sure2 all2) (fun _ _ _ t _ _ => 2 - (intOf t).toNat)
                  case atStart => exact ⟨0, cn, D2, by omega, rfl, rfl, by omega, HD2.out, HA2.out, HL2.out, HB2.out, HX2.out, HM2.out.crash⟩
                  case round =>
                    obtain ⟨t', cn', D3, ht, rfl, rfl, hcn', hd3, ha3, hl3, hb3, hx3, hpc⟩ := hrel
                    have hs3 := hb3.size
                    have HD3 := Lib.hid hd3
                    have HA3 := Lib.hid ha3
                    have HL3 := Lib.hid hl3
                    have HB3 := Lib.hid hb3
                    have HX3 := Lib.hid hx3
                    have HPC := Lib.hid hpc
                    clear hd3 ha3 hl3 hb3 hx3 hpc HD2 HA2 HJ2 HL2 HB2 HX2
                    go_upto_if 106 with (fail)
                    go_cut [19] (fun c wx => Pick wb.heap.size c wx ∧ wr = wx)
                    case first =>
                      by_cases hcr : cn' < m0
                      · obtain ⟨_, hs, hrd, hcell⟩ := RC.out
                        have hsl : cn' < hs.length := by rw [hrd.1]; exact hcr
                        have hll : cn' < ls.length := by rw [Hl2.out]; exact hcr
                        obtain ⟨r1, x1⟩ := hcell cn' _ _ (List.getElem?_eq_getElem hsl) (List.getElem?_eq_getElem hll)
                        obtain ⟨b1, o1, hB1, hb1, c1⟩ := (hrd.below HB3.out (Nat.le_refl _)).2.at_ hcr
                        rw [getD_map hs cn' hsl] at c1
                        generalize hs[cn'] = hh at *
                        generalize ls[cn'] = L at *
                        obtain ⟨A1, n1, d1⟩ := hh
                        simp only [slV] at c1 r1 x1
                        have R9 := Lib.hid r1
                        have X9 := Lib.hid x1
                        clear hcell hrd r1 x1
                        subst hB1
                        go_wp2
                        go_meet
                        exact ⟨⟨A1, n1, d1, L, rfl, R9.out.below HB3.out (Nat.le_refl _), fun h0 g hg => (by obtain ⟨b9, o9, e9, h9, _⟩ := R9.out.2 h0; rw [e9] at hg; simp only [Option.map_some, Option.some.injEq] at hg; omega), X9.out⟩, rfl⟩
                      · go_wp2
                        go_meet
                        exact ⟨⟨none, 0, 0, [], rfl, ⟨rfl, Row.nil _ _ _⟩, fun h => absurd h (by omega), by unfold maxLen; omega⟩, rfl⟩
                    case rest =>
                      obtain ⟨⟨C, nC, dC, cs, rfl, hrC, hbC, hmC⟩, rfl⟩ := hcut
                      have hcr := s_crash HD3.out hs3 C nC dC cs hrC hbC hmC
                      have hpc := HPC.out cs
                      clear hrC hbC hmC HPC HM2
                      by_cases t0 : t' = 0
                      · subst t0
                        have hct := hpc.cutTo (max x.n (-1)) (by omega) (by have := hxn.2; omega)
                        have c1 : ∀ {w : World}, DiskS w wb.heap.size p (crashV D3 cs) → wb.heap.size ≤ w.heap.size → Calls Try.prog 27 #[.pointer (some ⟨p.d, 0, none⟩), .int .i64 x.n] w fun e w' => e = .returned (.tuple #[]) ∧ DiskS w' wb.heap.size p { crashV D3 cs with cut := max x.n (-1) } ∧ Step mutD wb.heap.size p w w' := fun h hs => s_cut h hs x.n hxn.2
                        generalize ({ crashV D3 cs with cut := max x.n (-1) } : DiskV) = Dk at *
                        generalize crashV D3 cs = Dc at *
                        obtain ⟨D5, hop⟩ := hct.opened
                        have hmany := hct.many
                        have hwt := hct.waits
                        rcases hop with ⟨got, e5, hp5, g1, g2⟩ | ⟨nx5, e5, hc5⟩
                        · have c2 : ∀ {w : World}, AreaAt w ga p.d 1 8 → DiskS w wb.heap.size p Dk → wb.heap.size ≤ w.heap.size → Calls Try.prog 51 #[.pointer (some ⟨ga, 0, none⟩), .int .i64 3] w fun e w' => ∃ gj, e = .returned (.tuple #[.pointer (some ⟨gj, 0, none⟩), .int .i64 0]) ∧ w.heap.size ≤ gj ∧ JrnAt w' gj ga 3 got.length ∧ DiskS w' wb.heap.size p D5 ∧ Step mutD wb.heap.size p w w' := fun ha hd hs => jopen_ok ha (by omega) hd hs (by rw [hmany]; omega) (by rw [hwt]; simp) e5
                          have HP5 := Lib.hid hp5
                          have G1 := Lib.hid g1
                          have G2 := Lib.hid g2
                          clear hp5 g1 g2 e5 hmany hwt hct hpc
                          go_wp2_with (first
                            | ((go_at_call 22; (with_reducible refine (hcr).mono ?_); rintro e w5 ⟨rfl, h5, st5⟩); have A5 := Lib.hid (HD3.out.area HA3.out st5.tch (by decide)); have B5 := Lib.hid (HB3.out.trans st5.bel); have L5 := Lib.hid (HL3.out.step HD3.out st5 (by decide) (by decide)); have X5 := Lib.hid (HD3.out.blk HX3.out st5.tch (by decide)); have y5 : w5.cell? ⟨gx, 1, none⟩ = some (.int .i64 x.n) := X5.out.cell 1; have H5 := Lib.hid h5; have s5 := B5.out.size; clear h5 st5)
                            | ((go_at_call 27; (with_reducible refine (c1 H5.out s5).mono ?_); rintro e w6 ⟨rfl, h6, st6⟩); have A6 := Lib.hid (H5.out.area A5.out st6.tch (by decide)); have B6 := Lib.hid (B5.out.trans st6.bel); have L6 := Lib.hid (L5.out.step H5.out st6 (by decide) (by decide)); have X6 := Lib.hid (H5.out.blk X5.out st6.tch (by decide)); have H6 := Lib.hid h6; have s6 := B6.out.size; clear h6 st6)
                            | ((go_at_call 51; (with_reducible refine (c2 A6.out H6.out s6).mono ?_); rintro e w7 ⟨gk, rfl, g7, j7, h7, st7⟩); have A7 := Lib.hid (H6.out.area A6.out st7.tch (by decide)); have B7 := Lib.hid (B6.out.trans st7.bel); have L7 := Lib.hid (L6.out.step H6.out st7 (by decide) (by decide)); have H7 := Lib.hid h7; have J7 := Lib.hid j7; have s7 := B7.out.size; clear h7 j7 st7)
                            | fail "no arm")
                          go_meet
                          exact ⟨D5, got, gk, cn' + 1, rfl, by omega, by go_num, by omega, H7.out, A7.out, J7.out, L7.out, B7.out, HP5.out, G1.out, G2.out⟩
                        · have c2 : ∀ {w : World}, AreaAt w ga p.d 1 8 → DiskS w wb.heap.size p Dk → wb.heap.size ≤ w.heap.size → Calls Try.prog 51 #[.pointer (some ⟨ga, 0, none⟩), .int .i64 3] w fun e w' => e = .returned (.tuple #[.pointer none, .int .i64 50]) ∧ DiskS w' wb.heap.size p D5 ∧ Step mutD wb.heap.size p w w' := fun ha hd hs => jopen_no ha (by omega) hd hs (by rw [hmany]; omega) (by rw [hwt]; simp) e5 (by simp)
                          have HC5 := Lib.hid hc5
                          clear hc5 e5 hmany hwt hct hpc
                          go_wp2_with (first
                            | ((go_at_call 22; (with_reducible refine (hcr).mono ?_); rintro e w5 ⟨rfl, h5, st5⟩); have A5 := Lib.hid (HD3.out.area HA3.out st5.tch (by decide)); have B5 := Lib.hid (HB3.out.trans st5.bel); have L5 := Lib.hid (HL3.out.step HD3.out st5 (by decide) (by decide)); have X5 := Lib.hid (HD3.out.blk HX3.out st5.tch (by decide)); have y5 : w5.cell? ⟨gx, 1, none⟩ = some (.int .i64 x.n) := X5.out.cell 1; have H5 := Lib.hid h5; have s5 := B5.out.size; clear h5 st5)
                            | ((go_at_call 27; (with_reducible refine (c1 H5.out s5).mono ?_); rintro e w6 ⟨rfl, h6, st6⟩); have A6 := Lib.hid (H5.out.area A5.out st6.tch (by decide)); have B6 := Lib.hid (B5.out.trans st6.bel); have L6 := Lib.hid (L5.out.step H5.out st6 (by decide) (by decide)); have X6 := Lib.hid (H5.out.blk X5.out st6.tch (by decide)); have H6 := Lib.hid h6; have s6 := B6.out.size; clear h6 st6)
                            | ((go_at_call 51; (with_reducible refine (c2 A6.out H6.out s6).mono ?_); rintro e w7 ⟨rfl, h7, st7⟩); have A7 := Lib.hid (H6.out.area A6.out st7.tch (by decide)); have B7 := Lib.hid (B6.out.trans st7.bel); have L7 := Lib.hid (L6.out.step H6.out st7 (by decide) (by decide)); have X7 := Lib.hid (H6.out.blk X6.out st7.tch (by decide)); have H7 := Lib.hid h7; have s7 := B7.out.size; clear h7 st7)
                            | fail "no arm")
                          go_roundw
                          case rel => first
                            | exact ⟨1, cn' + 1, D5, by omega, by go_num, by go_num, by omega, H7.out, A7.out, L7.out, B7.out, X7.out, HC5.out⟩
                            | ((repeat apply Exists.intro); exact ⟨⟨1, cn' + 1, D5, by omega, by go_num, by go_num, by omega, H7.out, A7.out, L7.out, B7.out, X7.out, HC5.out⟩, rfl⟩)
                          case measure => simp [intOf]
                      · have t1 : t' = 1 := by omega
                        subst t1
                        obtain ⟨D5, got, e5, hp5, g1, g2⟩ := hpc.openedAgain rfl
                        have hmany := hpc.many
                        have hwt := hpc.waits
                        generalize crashV D3 cs = Dc at *
                        have c2 : ∀ {w : World}, AreaAt w ga p.d 1 8 → DiskS w wb.heap.size p Dc → wb.heap.size ≤ w.heap.size → Calls Try.prog 51 #[.pointer (some ⟨ga, 0, none⟩), .int .i64 3] w fun e w' => ∃ gj, e = .returned (.tuple #[.pointer (some ⟨gj, 0, none⟩), .int .i64 0]) ∧ w.heap.size ≤ gj ∧ JrnAt w' gj ga 3 got.length ∧ DiskS w' wb.heap.size p D5 ∧ Step mutD wb.heap.size p w w' := fun ha hd hs => jopen_ok ha (by omega) hd hs (by rw [hmany]; omega) (by rw [hwt]; simp) e5
                        have HP5 := Lib.hid hp5
                        have G1 := Lib.hid g1
                        have G2 := Lib.hid g2
                        clear hp5 g1 g2 e5 hmany hwt hpc t0
                        go_wp2_with (first
                          | ((go_at_call 22; (with_reducible refine (hcr).mono ?_); rintro e w5 ⟨rfl, h5, st5⟩); have A5 := Lib.hid (HD3.out.area HA3.out st5.tch (by decide)); have B5 := Lib.hid (HB3.out.trans st5.bel); have L5 := Lib.hid (HL3.out.step HD3.out st5 (by decide) (by decide)); have H5 := Lib.hid h5; have s5 := B5.out.size; clear h5 st5)
                          | ((go_at_call 51; (with_reducible refine (c2 A5.out H5.out s5).mono ?_); rintro e w7 ⟨gk, rfl, g7, j7, h7, st7⟩); have A7 := Lib.hid (H5.out.area A5.out st7.tch (by decide)); have B7 := Lib.hid (B5.out.trans st7.bel); have L7 := Lib.hid (L5.out.step H5.out st7 (by decide) (by decide)); have H7 := Lib.hid h7; have J7 := Lib.hid j7; have s7 := B7.out.size; clear h7 j7 st7)
                          | fail "no arm")
                        go_meet
                        exact ⟨D5, got, gk, cn' + 1, rfl, by omega, by go_num, by omega, H7.out, A7.out, J7.out, L7.out, B7.out, HP5.out, G1.out, G2.out⟩
                case rest =>
                  obtain ⟨D4, got, gk, cm, rfl, hgk, rfl, hcm, hd4, ha4, hj4, hl4, hb4, hp4, hg1, hg2⟩ := hcut
                  clear HD2 HA2 HJ2 HL2 HB2 HX2 HM2
                  have hs4 := hb4.size
                  have hC := s_cut hd4 hs4 (-1) (by omega)
                  have hp5 := hp4.cutTo (max (-1) (-1)) (by omega) (by omega)
                  generalize ({ D4 with cut := max (-1) (-1) } : DiskV) = D5 at *
                  have hle8 := hp5.le8
                  have hG := hp5.gets
                  have hm5 := hp5.many
                  have c3 : ∀ {w : World}, JrnAt w gk ga 3 got.length → AreaAt w ga p.d 1 8 → DiskS w wb.heap.size p D5 → wb.heap.size ≤ w.heap.size → Calls Try.prog 54 #[.pointer (some ⟨gk, 0, none⟩)] w fun e w' => ∃ B c, e = .returned (.tuple #[.slice B got.length c, .bool true]) ∧ LsOw w' w.heap.size B got.length c got ∧ (∃ o, DiskS w' wb.heap.size p { D5 with ops := o }) ∧ Step mutD wb.heap.size p w w' := fun hj ha hd hs => by
                    have := loads_any hj hd hs ha (by rw [hm5]; omega) (by omega) (fun k => openLoad (secOf D5.now ((1 + k : Nat) : Int))) (fun o' k hk => hG o' k hk)
                    rw [hp5.loads.2] at this
                    exact this
                  have hOps := fun o => hp5.ops o
                  have hN := HAL.out
                  have hbg1 := fun (w : World) (C : Option Addr) (d : Nat) (r1 : LsRd w sB2 sN2 sure2) (r2 : LsRd w C got.length got) => begins_any sB2 C sN2 got.length sc2 d sure2 got w r1 r2 (by omega) (by unfold maxLen; omega)
                  have hbg2 := fun (w : World) (C : Option Addr) (d : Nat) (r1 : LsRd w C got.length got) (r2 : LsRd w aB2 aN2 all2) => begins_any C aB2 got.length aN2 d ac2 got all2 w r1 r2 (by unfold maxLen; omega) (by omega)
                  rw [hg1] at hbg1
                  rw [hg2] at hbg2
                  have H4 := Lib.hid hd4
                  have A4 := Lib.hid ha4
                  have J4 := Lib.hid hj4
                  have L4 := Lib.hid hl4
                  have B4 := Lib.hid hb4
                  have HOPS := Lib.hid hOps
                  have HGL := Lib.hid (rfl : got.length = got.length)
                  clear hd4 ha4 hj4 hl4 hb4 hOps hp4 hp5 hG hm5 hg1 hg2 hN
                  go_wp2_with (first
                    | ((go_at_call 27; (with_reducible refine (hC).mono ?_); rintro e w5 ⟨rfl, h5, st5⟩); have A5 := Lib.hid (H4.out.area A4.out st5.tch (by decide)); have J5 := Lib.hid (J4.out.touch H4.out st5.tch (by decide)); have L5 := Lib.hid (L4.out.step H4.out st5 (by decide) (by decide)); have B5 := Lib.hid (B4.out.trans st5.bel); have H5 := Lib.hid h5; have s5 := B5.out.size; clear h5 st5)
                    | ((go_at_call 54; (with_reducible refine (c3 J5.out A5.out H5.out s5).mono ?_); rintro e w6 ⟨gB, gc, rfl, o6, ⟨ops6, h6⟩, st6⟩); have A6 := Lib.hid (H5.out.area A5.out st6.tch (by decide)); have J6 := Lib.hid (J5.out.touch H5.out st6.tch (by decide)); have L6 := Lib.hid (L5.out.step H5.out st6 (by decide) (by decide)); have B6 := Lib.hid (B5.out.trans st6.bel); have O6 := Lib.hid o6; have H6 := Lib.hid h6; have s6 := B6.out.size; clear h6 o6 st6)
                    | ((go_at_call 55; (with_reducible refine (hbg1 _ _ _ L6.out.sureRd O6.out.rd).mono ?_); rintro e w7 ⟨rfl, b7⟩); have A7 := Lib.hid (show AreaAt w7 ga p.d 1 8 from Blk.below A6.out b7 (Blk.lt A6.out)); have J7 := Lib.hid (J6.out.below b7); have L7 := Lib.hid (L6.out.below b7); have B7 := Lib.hid (B6.out.trans (b7.mono s6)); have O7 := Lib.hid (O6.out.below b7); have H7 := Lib.hid (H6.out.below b7); have s7 := B7.out.size; clear b7)
                    | ((go_at_call 55; (with_reducible refine (hbg2 _ _ _ O7.out.rd L7.out.allRd).mono ?_); rintro e w8 ⟨rfl, b8⟩); have A8 := Lib.hid (show AreaAt w8 ga p.d 1 8 from Blk.below A7.out b8 (Blk.lt A7.out)); have J8 := Lib.hid (J7.out.below b8); have B8 := Lib.hid (B7.out.trans (b8.mono s7)); have O8 := Lib.hid (O7.out.below b8); have H8 := Lib.hid (H7.out.below b8); have s8 := B8.out.size; clear b8)
                    | fail "no arm")
                  go_roundw
                  case rel => first
                    | exact ⟨k + 1, by omega, by go_num, { D5 with ops := ops6 }, got, got, gB, gB, got.length, gc, got.length, gc, gk, cm, rfl, hgk, rfl, rfl, rfl, by omega, H8.out, A8.out, J8.out, Lists.got O8.out s5, B8.out, HOPS.out ops6⟩
                    | ((repeat apply Exists.intro); exact ⟨⟨k + 1, by omega, by go_num, { D5 with ops := ops6 }, got, got, gB, gB, got.length, gc, got.length, gc, gk, cm, rfl, hgk, rfl, rfl, rfl, by omega, H8.out, A8.out, J8.out, Lists.got O8.out s5, B8.out, HOPS.out ops6⟩, rfl⟩)
                  case measure => simp [intOf]; omega
        · have hk9 : k = n := by omega
          subst hk9
          go_wp2
          go_ret
          exact ⟨rfl, HB.out.trans (HB5.out.mono (by have := B2.out.size; omega))⟩
set_option maxRecDepth 100000 in
set_option maxHeartbeats 8000000 in
theorem walk_few (A0 C0 : Option Addr) (n m0 c0 d0 : Nat) (l : List DoV) (ls : List (List UInt8)) (w : World) (h1 : DosRd w A0 n l) (hn : n ≤ maxLen) (q1 : few9B l = false) :
    Calls Try.prog 9 #[.slice A0 n c0, .slice C0 m0 d0] w fun e w' => e = .returned (.bool true) ∧ Below w.heap.size w w' := by
  have hf1 := fun w h => few9_any A0 n c0 l w h hn
  rw [q1] at hf1
  clear q1
  go_enter Try.func9, Try.ntmps9
  go_wp2_with (first
    | ((go_at_call 48; (with_reducible refine (awake9 _).mono ?_); rintro e w1 ⟨rfl, hb1⟩); have HB1 := Lib.hid hb1; have s1 := hb1.size; have R1 := Lib.hid (h1.below hb1 (Nat.le_refl _)); clear hb1)
    | ((go_at_call 49; (with_reducible refine (hf1 _ R1.out).mono ?_); rintro e w2 ⟨rfl, hb2⟩); have HB2 := Lib.hid (HB1.out.trans (hb2.mono s1)); clear hb2)
    | fail "no arm")
  go_ret
  exact ⟨rfl, HB2.out⟩
set_option maxRecDepth 100000 in
set_option maxHeartbeats 8000000 in
theorem walk_many (A0 C0 : Option Addr) (n m0 c0 d0 : Nat) (l : List DoV) (w : World) (h1 : DosRd w A0 n l) (hn : n ≤ maxLen) (q1 : few9B l = true) (hm0 : 20 < m0) (hmm : m0 ≤ maxLen) :
    Calls Try.prog 9 #[.slice A0 n c0, .slice C0 m0 d0] w fun e w' => e = .returned (.bool true) ∧ Below w.heap.size w w' := by
  have hf1 := fun w h => few9_any A0 n c0 l w h hn
  rw [q1] at hf1
  unfold maxLen at hmm
  clear q1
  go_enter Try.func9, Try.ntmps9
  go_wp2_with (first
    | ((go_at_call 48; (with_reducible refine (awake9 _).mono ?_); rintro e w1 ⟨rfl, hb1⟩); have HB1 := Lib.hid hb1; have s1 := hb1.size; have R1 := Lib.hid (h1.below hb1 (Nat.le_refl _)); clear hb1)
    | ((go_at_call 49; (with_reducible refine (hf1 _ R1.out).mono ?_); rintro e w2 ⟨rfl, hb2⟩); have HB2 := Lib.hid (HB1.out.trans (hb2.mono s1)); clear hb2)
    | fail "no arm")
  go_ret
  exact ⟨rfl, HB2.out⟩
theorem walk (w : World) (v0 : Value) (h1 : ∃ A n c l, v0 = .slice A n c ∧ DosRd w A n l ∧ n ≤ c ∧ c ≤ maxLen) (v1 : Value) (h2 : ∃ A n c l, v1 = .slice A n c ∧ LsRd w A n l ∧ n ≤ c ∧ c ≤ maxLen) :
    Calls Try.prog 9 #[v0, v1] w fun e w' => e = .returned (.bool true) ∧ Below w.heap.size w w' := by
  obtain ⟨A0, n, c0, l, rfl, r1, nc1, cm1⟩ := h1
  obtain ⟨C0, m0, d0, ls, rfl, r2, nc2, cm2⟩ := h2
  cases q : few9B l with
  | false => exact walk_few A0 C0 n m0 c0 d0 l ls w r1 (by omega) q
  | true =>
    by_cases hm : m0 ≤ 20
    · exact walk_main A0 C0 n m0 c0 d0 l ls w r1 r2 q hm
    · exact walk_many A0 C0 n m0 c0 d0 l w r1 (by omega) q (by omega) (by omega)

--FRAME tompionlaw09 JournalWhole journalWhole walk raw:[]tompionlaw09.Do:args_dos9:.slice‹_›none‹_›0‹_›0 raw:[][]uint8:args_ll:.slice‹_›none‹_›0‹_›0
theorem own : ownKnob Try.prog.godebug = none := by kernel_rfl
theorem laidOut : laidOutB Try.prog = true := by kernel_rfl

set_option maxRecDepth 100000 in
theorem lifted (os : Os) (started : os.Started) (H : Type) (enc : TypeId × Value → H) :
    ReturnsInHanded {} Try.checked os 9 .any (Rows.journalWholeSpec.pre6 enc Try.prog Try.f9 Rows.journalWholeRow.domain false) (Rows.journalWholeSpec.post enc Try.prog Try.f9 false true false false) := by
  refine returnsInHanded_of_change (C := Try.checked) own started (by kernel_rfl) Try.func9
    (ChangeSpec.witness6 (enc := enc) (C := Try.checked) false ⟨#[], #[.slice none 0 0, .slice none 0 0], []⟩ 8 (by kernel_rfl) (by kernel_rfl) (by kernel_rfl) (by kernel_rfl)) ?_
  intro W base args ds gs before hval0 hW hcnd _
  have hval : ∀ (j : Nat) t v, Try.f9.params[j]? = some t → args[j]? = some v → Value.okWide Try.prog W .any base t v := hval0
  have hW' := hW
  obtain ⟨p, q, hA0, hV, rfl, hfz, hnd⟩ := hW
  have hA : DataW.TrodAll enc Try.prog W 0 (fun _ => true) true Try.f9.params.toList args.toList ds p := hA0
  rw [Try.params9] at hA hval
  obtain ⟨v0, vs0, d0, ds0, p0, q0, hargs, rfl, rfl, h0, rr0⟩ := trodAll_cons hA
  obtain ⟨v1, vs1, d1, ds1, p1, q1, rfl, rfl, rfl, h1, rr1⟩ := trodAll_cons rr0
  obtain ⟨rfl, rfl, rfl⟩ := trodAll_nil rr1
  obtain rfl : args = #[v0, v1] := by cases args; simp_all
  obtain ⟨rfl, rfl⟩ := trodVars_none hV
  have k0 := h0
  have lt0 : ∀ x ∈ p0, x.block < W.heap.size := by obtain ⟨m, hm⟩ := k0; exact DataW.trod_lt m _ _ _ hm
  have x0 := args_dos9 (hval 0 87 v0 rfl rfl) h0
  have k1 := h1
  have lt1 : ∀ x ∈ p1, x.block < W.heap.size := by obtain ⟨m, hm⟩ := k1; exact DataW.trod_lt m _ _ _ hm
  have x1 := args_ll (hval 1 61 v1 rfl rfl) h1
  clear hA0 hval0
  refine (walk W v0 x0 v1 x1).mono fun e W' ⟨he, bel⟩ => ?_
  subst he
  exact ⟨_, rfl, _, _, _, [], _, [], hW', trodAll_mk1 (shut_bool Try.underlying4 _), (trodAll_cons_mk (Below.trod laidOut (by kernel_rfl) (of_decide_eq_true (by kernel_rfl)) k0 bel lt0) (trodAll_cons_mk (Below.trod laidOut (by kernel_rfl) (of_decide_eq_true (by kernel_rfl)) k1 bel lt1) trodAll_mk0)), rfl, bel.frame _, fun h => by cases h⟩

theorem over : Rows.journalWholeRow.holds Try.pinned (OpenSpec.ofChange Rows.journalWholeSpec) :=
  OpenClaim.holds_of_wide 9 Try.f9 rfl rfl rfl rfl rfl rfl rfl ⟨rfl, rfl, rfl, rfl, rfl⟩ rfl rfl rfl rfl rfl (by kernel_rfl) Try.func9 (by kernel_rfl)
    (of_decide_eq_true (by kernel_rfl)) (by unfold Func.isWrapper; first | (rw [if_pos (by decide +kernel)]; kernel_rfl) | (rw [if_neg (by decide +kernel)]; exact ⟨rfl, rfl⟩))
    (fun os started H enc _ => lifted os started H enc)

theorem proved : Rows.JournalWholeSaid := over
--ENDFRAME
end Go.Proofs.Ytninidpbchcliaa.journalWhole
