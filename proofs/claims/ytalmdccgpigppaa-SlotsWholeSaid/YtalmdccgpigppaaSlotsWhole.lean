/- SlotsWhole: whatever is saved, wherever the power goes, and whatever is kept of what waits: what is opened then has what was saved last, or what was to be saved then. -/
import Derived.Test.YtalmdccgpigppaaPlainCrash
import Derived.Test.YtalmdccgpigppaaSlotsTurn
import Derived.Test.YtalmdccgpigppaaLists
import Derived.Test.YtalmdccgpigppaaDo10
import Derived.IntWalk
namespace Go.Proofs.Ytalmdccgpigppaa
open Go.RowKit
set_option linter.unusedVariables false
set_option linter.unusedSimpArgs false
theorem SInv.first : SInv O10a.1 O10a.2.1 0 := by
  have hc : Calm D10a := by
    have := calm_new (many := 12) (by omega) (by omega)
    show Calm (loadD 12 12 [] 0)
    rw [loadD_zero]
    exact this
  obtain ⟨h1, h2, _, h4, h5⟩ := o10_slots
  have h3 : O10a.2.1.load = [] ∧ (wholeV O10a.1 0 6).2.2.2 = 53 ∧ (wholeV O10a.1 6 6).2.2.2 = 53 := by decide +kernel
  obtain ⟨h6, h7, h8⟩ := h3
  have hr := o10_read
  generalize O10a = o at *
  generalize D10a = d at *
  have hfit : Fit o.1 := by rw [hr]; exact (hc.fit.ops _).ops _
  refine ⟨hfit, by rw [hr]; exact h4, by rw [hr]; exact List.eq_nil_of_length_eq_zero h5, h1, fun _ => ⟨?_, h7, h8⟩, fun e => absurd e (by omega)⟩
  obtain ⟨o1, ⟨nw, nm, ld⟩, z⟩ := o
  simp only at h1 h2 h6
  subst h1 h2 h6
  rfl
theorem SInv.loads {D : DiskV} {s : SlV3} {n : Nat} (h : SInv D s n) : loadSV s = (s.load, (n : Int), decide ((n : Int) > 0)) := by
  unfold loadSV
  rcases Nat.eq_zero_or_pos n with q | q
  · obtain ⟨e1, _⟩ := h.none_ q
    subst e1 q
    rfl
  · obtain ⟨e1, _⟩ := h.some_ q
    rw [if_neg (by rcases e1 with e | e <;> omega), h.num, decide_eq_true (by omega)]
/-- Behind a save, whether it went well or not. -/
def Mid10 (D : DiskV) (s : SlV3) (n : Nat) (z : Int) (L : List UInt8) : Prop :=
  ((z = 0 ∨ z = 3) ∧ SInv D s n) ∨ (z = 50 ∧ ∀ cs, SInv (crashV D cs) s n ∨ SInv (crashV D cs) ⟨othS s, ((n + 1 : Nat) : Int), L⟩ (n + 1))
theorem Mid10.crash {D : DiskV} {s : SlV3} {n : Nat} {z : Int} {L : List UInt8} (h : Mid10 D s n z L) (cs : List UInt8) : SInv (crashV D cs) s n ∨ (z = 50 ∧ SInv (crashV D cs) ⟨othS s, ((n + 1 : Nat) : Int), L⟩ (n + 1)) := by
  rcases h with ⟨_, h⟩ | ⟨e, h⟩
  · exact .inl (h.crash cs)
  · rcases h cs with q | q
    · exact .inl q
    · exact .inr ⟨e, q⟩
theorem saveSV_long {D : DiskV} {s : SlV3} {L : List UInt8} (h : 512 < L.length) : saveSV D 0 6 6 6 s L = (D, s, 3) := by
  unfold saveSV
  rw [if_pos (.inl h)]
theorem SInv.saved {D : DiskV} {s : SlV3} {n : Nat} (h : SInv D s n) (hn : n < 9223372036854775806) (L : List UInt8) :
    ((saveSV D 0 6 6 6 s L).2.2 = 0 ∧ SInv (saveSV D 0 6 6 6 s L).1 (saveSV D 0 6 6 6 s L).2.1 (n + 1) ∧ (saveSV D 0 6 6 6 s L).2.1.load = L) ∨
    ((saveSV D 0 6 6 6 s L).2.2 ≠ 0 ∧ (saveSV D 0 6 6 6 s L).2.1 = s ∧ Mid10 (saveSV D 0 6 6 6 s L).1 s n (saveSV D 0 6 6 6 s L).2.2 L) := by
  rcases Nat.lt_or_ge 512 L.length with q | q
  · right
    rw [saveSV_long q]
    exact ⟨by simp, rfl, .inl ⟨.inr rfl, h⟩⟩
  · rcases h.save hn q with ⟨e1, e2, e3⟩ | ⟨e1, e2, e3⟩
    · left
      rw [e3]
      exact ⟨e1, e2, rfl⟩
    · right
      exact ⟨by rw [e1]; simp, e2, .inr ⟨e1, e3⟩⟩
def PickV (base : Nat) (v : Value) (w : World) : Prop := ∃ (C : Option Addr) (n d : Nat) (cs : List UInt8), v = .slice C n d ∧ RB w C n cs ∧ (0 < n → ∀ g, C.map (·.block) = some g → g < base) ∧ n ≤ maxLen
def doS (x : DoV) (B : Option Addr) (m d : Nat) : List Value := [.int .i64 x.kind, .int .i64 x.n, .slice B m d]
def RelS (w1 : World) (ga gb : Nat) (p : DiskP) (k : Nat) (s la sv cr : Value) (w : World) : Prop :=
  ∃ (D : DiskV) (t : SlV3) (g nS cn nL cL : Nat) (BL : Option Addr), s = .pointer (some ⟨g, 0, none⟩) ∧ w1.heap.size ≤ g ∧ la = .slice BL nL cL ∧ BytesAt w w1.heap.size ⟨BL, nL, cL⟩ t.load ∧ sv = .int .i64 (nS : Nat) ∧ cr = .int .i64 (cn : Nat) ∧ cn ≤ k ∧ nS ≤ 2 * k ∧
    SInv D t nS ∧ A10 w1 w w1.heap.size p ga gb D ∧ SlotsAt w w1.heap.size g ga gb t
end Go.Proofs.Ytalmdccgpigppaa
namespace Go.Proofs.Ytalmdccgpigppaa.slotsWhole
open Go.ChangeShapes Go.WideShapes Go.ChangeAt Go.RowKit
set_option linter.unusedVariables false
set_option linter.unusedSimpArgs false
set_option maxRecDepth 100000 in
set_option maxHeartbeats 20000000 in
theorem walk_main (A0 C0 : Option Addr) (n m0 c0 d0 : Nat) (l : List DoV) (ls : List (List UInt8)) (w : World) (h1 : DosRd w A0 n l) (h2 : LsRd w C0 m0 ls) (q1 : few10B l = true) (hm0 : m0 ≤ 20) :
    Calls Try.prog 3 #[.slice A0 n c0, .slice C0 m0 d0] w fun e w' => e = .returned (.bool true) ∧ Below w.heap.size w w' := by
  have hq := few10B_true q1
  rw [h1.1] at hq
  obtain ⟨hn20, hsm⟩ := hq
  have hf1 := fun w h => few10_any A0 n c0 l w h (by unfold maxLen; omega)
  rw [q1] at hf1
  have Hsm := Lib.hid hsm
  have Hl1 := Lib.hid h1.1
  have Hl2 := Lib.hid h2.1
  have hmd := fun w => (show Calls Try.prog 10 #[.slice none 0 0, .int .i64 12] w (Made10 w D10a) from made10_ok none 0 0 [] 12 w ⟨rfl, Row.nil _ _ _⟩ (by omega) (by omega) (by omega) (by omega) (by show ((0 : Nat) : Int) ≤ 12; omega))
  obtain ⟨f1, _⟩ := d10_facts
  have cop := fun {w0 W : World} {base ga gb : Nat} {p : DiskP} (O : A10 w0 W base p ga gb D10a) => (sopen_any O.sd O.size O.a O.b (by omega) (by omega) (show 0 + 6 ≤ 12 by omega) (show 6 + 6 ≤ 12 by omega)).mono fun e w' (hp : SOPost W base p ga gb O10a e w') => (show ∃ g, e = .returned (.tuple #[.pointer (some ⟨g, 0, none⟩), .int .i64 0]) ∧ W.heap.size ≤ g ∧ SlotsAt w' base g ga gb O10a.2.1 ∧ DiskS w' base p O10a.1 ∧ Step mutD base p W w' from by
    obtain ⟨P, e1, _, e3, e4, e5⟩ := hp
    obtain ⟨g, rfl, q2, q3⟩ := e3 f1
    rw [f1] at e1
    exact ⟨g, e1, q2, q3, e4, e5⟩)
  have T0 := Lib.hid SInv.first
  have HN0 := Lib.hid (show O10a.2.1.load = [] from T0.out.none_ rfl |>.1 ▸ rfl)
  generalize O10a = o1 at *
  generalize D10a = dd0 at *
  clear f1 hsm
  go_enter Try.func3, Try.ntmps3
  go_wp2_with (first
    | ((go_at_call 8; (with_reducible refine (awake10 _).mono ?_); rintro e w1 ⟨rfl, hb1⟩); have s1 := hb1.size; have HB1 := Lib.hid hb1; have R1 := Lib.hid (h1.below hb1 (Nat.le_refl _)); have R2 := Lib.hid (h2.below hb1 (Nat.le_refl _)))
    | ((go_at_call 9; (with_reducible refine (hf1 _ R1.out).mono ?_); rintro e w2 ⟨rfl, hb2⟩); have B2 := Lib.hid hb2; have s2 := hb2.size; clear hb2)
    | fail "no arm")
  go_loopw [6, 35] (fun _ i wr => ∃ k : Nat, k ≤ m0 ∧ i = .int .i64 (k : Nat) ∧ (∀ (j : Nat) (c : List UInt8), j < k → ls[j]? = some c → c.length ≤ 200) ∧ wr = w2) (fun _ i _ => m0 - (intOf i).toNat)
  case atStart => exact ⟨0, by omega, rfl, fun j x hj => absurd hj (by omega), rfl⟩
  case round =>
    obtain ⟨kc, hk, rfl, hsh, rfl⟩ := hrel
    have HSH := Lib.hid hsh
    clear hsh
    by_cases hlt : kc < m0
    · obtain ⟨_, hs, hrd, hcell⟩ := R2.out.below B2.out (Nat.le_refl _)
      have hsl : kc < hs.length := by rw [hrd.1]; exact hlt
      have hll : kc < ls.length := by rw [Hl2.out]; exact hlt
      obtain ⟨r1, x1⟩ := hcell kc _ _ (List.getElem?_eq_getElem hsl) (List.getElem?_eq_getElem hll)
      obtain ⟨b1, o1, hB1, hb1, c1⟩ := hrd.2.at_ hlt
      rw [getD_map hs kc hsl] at c1
      have e1 := Lib.hid (List.getElem?_eq_getElem hll)
      generalize hs[kc] = hh at *
      generalize ls[kc] = L at *
      obtain ⟨A1, n1, d1⟩ := hh
      simp only [slV] at c1 r1 x1
      have Hr := Lib.hid r1.1
      have hx1 : n1 ≤ 9223372036854775807 := by unfold maxLen at x1; omega
      clear hcell hrd r1 x1
      subst hB1
      by_cases hbig : 200 < n1
      · go_wp2
        go_ret
        exact ⟨rfl, (HB1.out.trans (B2.out.mono s1))⟩
      · have hsh2 : Hid (∀ (j : Nat) (c : List UInt8), j < kc + 1 → ls[j]? = some c → c.length ≤ 200) := fun j c hj hc => by
          rcases Nat.lt_or_ge j kc with q | q
          · exact HSH.out j c q hc
          · have : j = kc := by omega
            subst this
            rw [e1.out] at hc
            injection hc with hc
            rw [← hc, Hr.out]; omega
        go_wp2
        go_roundw
        case rel => first
          | exact ⟨kc + 1, by omega, by go_num, hsh2.out, trivial⟩
          | ((repeat apply Exists.intro); exact ⟨⟨kc + 1, by omega, by go_num, hsh2.out, trivial⟩, rfl⟩)
        case measure => simp [intOf]; omega
    · have hk9 : m0 = kc := by omega
      subst hk9
      clear HSH
      have RD := Lib.hid (R1.out.below B2.out (Nat.le_refl _))
      have RC := Lib.hid (R2.out.below B2.out (Nat.le_refl _))
      have HB := Lib.hid (HB1.out.trans (B2.out.mono s1))
      go_wp2_with (first
        | ((go_at_call 10; (with_reducible refine (hmd wr).mono ?_); rintro e w3 ⟨p, ga, gb, rfl, o3⟩); have O3 := Lib.hid o3; clear o3)
        | ((go_at_call 11; (with_reducible refine (cop O3.out).mono ?_); rintro e w4 ⟨g0, rfl, g4, h4, d4, st4⟩); have O4 := Lib.hid (O3.out.step st4 d4); have SA4 := Lib.hid h4; have hgg : wr.heap.size ≤ g0 := (by have := O3.out.size; omega); clear h4 d4 st4)
        | fail "no arm")
      clear hmd cop hf1 O3
      generalize wr = wb at *
      go_loopw [10, 11, 12, 13, 14, 15, 17, 18, 19, 20, 21, 22, 58] (fun s _ la _ sv cr _ _ _ _ _ _ i wr => ∃ k : Nat, k ≤ n ∧ i = .int .i64 (k : Nat) ∧ RelS wb ga gb p k s la sv cr wr) (fun _ _ _ _ _ _ _ _ _ _ _ _ i _ => n - (intOf i).toNat)
      case atStart => exact ⟨0, by omega, rfl, o1.1, o1.2.1, g0, 0, 0, 0, 0, none, rfl, hgg, rfl, ⟨by rw [HN0.out]; exact ⟨rfl, Row.nil _ _ _⟩, by show 0 ≤ maxLen; unfold maxLen; omega, fun h => absurd (show 0 < 0 from h) (by omega)⟩, rfl, rfl, by omega, by omega, T0.out, O4.out, SA4.out⟩
      case round =>
        obtain ⟨k, hk, rfl, D, t, g, nS, cn, nL, cL, BL, rfl, hg, rfl, hL, rfl, rfl, hcn, hnS, hinv, hO, hSA⟩ := hrel
        have hbs := hO.size
        have HO := Lib.hid hO
        have HSA := Lib.hid hSA
        have HL := Lib.hid hL
        have HI := Lib.hid hinv
        clear hO hSA hL hinv
        by_cases hlt : k < n
        · obtain ⟨x, hx⟩ : ∃ x, l[k]? = some x := ⟨_, List.getElem?_eq_getElem (by rw [Hl1.out]; exact hlt)⟩
          obtain ⟨b, o, B, m, d, hA0, hr, hmd, hdm, hxn, hget⟩ := RD.out.get hx
          obtain ⟨hb, e0, e1, e2⟩ := hget wr _ HO.out.bel (Nat.le_refl _)
          have hm700 : x.b.length ≤ 700 := Hsm.out x (List.mem_of_getElem? hx)
          have hm7 : m ≤ 700 := by rw [← hr.1]; exact hm700
          have Hr := Lib.hid hr
          have HMD := Lib.hid hmd
          have HDM := Lib.hid hdm
          clear hr hx hget hm700 hmd hdm
          subst hA0
          have bX : Below wr.heap.size wr (wr.alloc (.cells #[.int .i64 x.kind, .int .i64 x.n, .slice B m d] 36)) := (Below.refl _ _).alloc (Nat.le_refl _) _
          have HX := Lib.hid (show Blk (wr.alloc (.cells #[.int .i64 x.kind, .int .i64 x.n, .slice B m d] 36)) wr.heap.size 36 (doS x B m d) from Blk.top _ rfl rfl)
          have HO2 := Lib.hid (HO.out.below bX)
          have HSA2 := Lib.hid (HSA.out.below bX)
          have HL2 := Lib.hid (HL.out.below bX)
          have HXB := Lib.hid (BytesAt.old (base := wb.heap.size) (h := ⟨B, m, d⟩) Hr.out (by show m ≤ maxLen; unfold maxLen; omega) HO2.out.bel (Nat.le_refl _))
          clear bX
          by_cases k2 : x.kind = 2
          · have kB : (x.kind == 2) = true := by rw [k2]; rfl
            have hC := s_cut HO2.out.sd HO2.out.size x.n hxn.2
            have hI2 := HI.out.cutTo (max x.n (-1)) (by omega) (by have := hxn.2; omega)
            generalize ({ D with cut := max x.n (-1) } : DiskV) = D' at *
            have HI2 := Lib.hid hI2
            clear hI2 k2
            go_wp2_with (first
              | ((go_at_call 12; (with_reducible refine (hC).mono ?_); rintro e w5 ⟨rfl, h5, st5⟩); have O5 := Lib.hid (HO2.out.step st5 h5); have SA5 := Lib.hid (HSA2.out.step HO2.out.sd st5); have L5 := Lib.hid (HL2.out.step HO2.out.sd st5 (by decide)); clear h5 st5)
              | fail "no arm")
            go_roundw
            case rel => first
              | exact ⟨k + 1, by omega, by go_num, D', t, g, nS, cn, nL, cL, BL, rfl, hg, rfl, L5.out, rfl, rfl, by omega, by omega, HI2.out, O5.out, SA5.out⟩
              | ((repeat apply Exists.intro); exact ⟨⟨k + 1, by omega, by go_num, D', t, g, nS, cn, nL, cL, BL, rfl, hg, rfl, L5.out, rfl, rfl, by omega, by omega, HI2.out, O5.out, SA5.out⟩, rfl⟩)
            case measure => simp [intOf]; omega
          · have kB : (x.kind == 2) = false := by rw [beq_eq_false_iff_ne]; exact k2
            have csv := save_any (fl := 0) (ml := 6) (fr := 6) (mr := 6) HSA2.out HO2.out.sd HO2.out.size hg HO2.out.a HO2.out.b (by omega) (by omega) (by rw [HI.out.many]; omega) (by rw [HI.out.many]; omega) HXB.out HMD.out HDM.out (by rw [HI.out.num]; omega) (by rw [HI.out.waits]; simp)
            have hsv := HI.out.saved (by omega) x.b
            generalize saveSV D 0 6 6 6 t x.b = R at *
            obtain ⟨D', s', z⟩ := R
            simp only at csv hsv
            have HSV := Lib.hid hsv
            clear hsv k2
            go_upto_if 76 with (first
              | ((go_at_call 13; (with_reducible refine (csv).mono ?_); rintro e w5 ⟨rfl, h5, hs5, st5⟩); have O5 := Lib.hid (HO2.out.stepS st5 h5); have SA5 := Lib.hid hs5; have L5 := Lib.hid (HL2.out.step HO2.out.sd st5 (by decide)); have XB5 := Lib.hid (HXB.out.step HO2.out.sd st5 (by decide)); have X5 := Lib.hid (HO2.out.sd.blk HX.out st5.tch (by decide)); have y0 : w5.cell? ⟨wr.heap.size, 0, none⟩ = some (.int .i64 x.kind) := X5.out.cell 0; have y2 : w5.cell? ⟨wr.heap.size, 2, none⟩ = some (.slice B m d) := X5.out.cell 2; clear h5 hs5 st5 csv HO HSA HL HO2 HSA2 HL2 HX HXB)
              | fail "no arm")
            go_cut [12, 14] (fun la sv wx => ∃ (nS' nL' cL' : Nat) (BL' : Option Addr), la = .slice BL' nL' cL' ∧ sv = .int .i64 (nS' : Nat) ∧ nS' ≤ 2 * k + 1 ∧ BytesAt wx wb.heap.size ⟨BL', nL', cL'⟩ s'.load ∧ Mid10 D' s' nS' z x.b ∧ w5 = wx)
            case first =>
              rcases HSV.out with ⟨z0, i1, i2⟩ | ⟨z1, i1, i2⟩
              · have zB : (z == 0) = true := by rw [z0]; rfl
                have HI1 := Lib.hid (show Mid10 D' s' (nS + 1) z x.b from .inl ⟨.inl z0, i1⟩)
                have HI2 := Lib.hid i2
                clear z0 i1 i2
                go_wp2
                go_meet
                exact ⟨nS + 1, m, d, B, rfl, by go_num, by omega, by rw [HI2.out]; exact XB5.out, HI1.out, rfl⟩
              · have zB : (z == 0) = false := by rw [beq_eq_false_iff_ne]; exact z1
                have HI1 := Lib.hid i1
                have HI2 := Lib.hid i2
                clear z1 i1 i2
                go_wp2
                go_meet
                exact ⟨nS, nL, cL, BL, rfl, rfl, by omega, by rw [HI1.out]; exact L5.out, by rw [HI1.out]; exact HI2.out, rfl⟩
            case rest =>
              obtain ⟨nS', nL', cL', BL', rfl, rfl, hnS', hl', hmid, rfl⟩ := hcut
              have L6 := Lib.hid hl'
              have HM := Lib.hid hmid
              clear hl' hmid HSV L5
              go_upto_if 82 with fail
              go_cut [13] (fun nx wx => (z ≠ 3 → nx = .slice B m d) ∧ w5 = wx)
              case first =>
                by_cases z3 : z = 3
                · have zB : (z == 3) = true := by rw [z3]; rfl
                  have Z3 := Lib.hid z3
                  clear z3
                  go_wp2
                  go_meet
                  exact ⟨fun h => absurd Z3.out h, rfl⟩
                · have zB : (z == 3) = false := by rw [beq_eq_false_iff_ne]; exact z3
                  clear z3
                  go_wp2
                  go_meet
                  exact ⟨fun _ => rfl, rfl⟩
              case rest =>
                obtain ⟨hnx, rfl⟩ := hcut
                have HNX := Lib.hid hnx
                clear hnx
                generalize w5 = wm at *
                go_upto_region 29 with fail
                go_cut [90] (fun v wx => v = .bool ((z != 50) && decide (x.kind < 3)) ∧ wm = wx)
                case first =>
                  by_cases zp : z = 50
                  · have zB : (z != 50) = false := by rw [zp]; rfl
                    have HZ := Lib.hid zB
                    clear zp
                    go_wp2_with fail
                    go_meet
                    exact ⟨by rw [HZ.out]; rfl, rfl⟩
                  · have zB : (z != 50) = true := by rw [bne_iff_ne]; exact zp
                    have HZ := Lib.hid zB
                    clear zp
                    by_cases hk3 : x.kind < 3
                    · have kB3 : decide (x.kind < 3) = true := decide_eq_true hk3
                      go_wp2_with fail
                      go_meet
                      exact ⟨by rw [HZ.out, kB3]; rfl, rfl⟩
                    · have kB3 : decide (x.kind < 3) = false := decide_eq_false hk3
                      go_wp2_with fail
                      go_meet
                      exact ⟨by rw [HZ.out, kB3]; rfl, rfl⟩
                case rest =>
                  obtain ⟨rfl, rfl⟩ := hcut
                  cases hcont : ((z != 50) && decide (x.kind < 3)) with
                  | true =>
                    have hz : z ≠ 50 := fun e => by rw [e] at hcont; simp at hcont
                    have hi := Lib.hid (show SInv D' s' nS' from by
                      rcases HM.out with ⟨_, q⟩ | ⟨q, _⟩
                      · exact q
                      · exact absurd q hz)
                    clear hz hcont
                    go_wp2
                    go_roundw
                    case rel => first
                      | exact ⟨k + 1, by omega, by go_num, D', s', g, nS', cn, nL', cL', BL', rfl, hg, rfl, L6.out, rfl, rfl, by omega, by omega, hi.out, O5.out, SA5.out⟩
                      | ((repeat apply Exists.intro); exact ⟨⟨k + 1, by omega, by go_num, D', s', g, nS', cn, nL', cL', BL', rfl, hg, rfl, L6.out, rfl, rfl, by omega, by omega, hi.out, O5.out, SA5.out⟩, rfl⟩)
                    case measure => simp [intOf]; omega
                  | false =>
                    clear hcont
                    go_upto_if 94 with fail
                    go_cut [19] (fun c wx => PickV wb.heap.size c wx ∧ wm = wx)
                    case first =>
                      by_cases hcr : cn < m0
                      · obtain ⟨_, hs, hrd, hcell⟩ := RC.out
                        have hsl : cn < hs.length := by rw [hrd.1]; exact hcr
                        have hll : cn < ls.length := by rw [Hl2.out]; exact hcr
                        obtain ⟨r1, x1⟩ := hcell cn _ _ (List.getElem?_eq_getElem hsl) (List.getElem?_eq_getElem hll)
                        obtain ⟨b1, o1', hB1, hb1, c1⟩ := (hrd.below O5.out.bel (Nat.le_refl _)).2.at_ hcr
                        rw [getD_map hs cn hsl] at c1
                        generalize hs[cn] = hh at *
                        generalize ls[cn] = L at *
                        obtain ⟨A1, n1, d1⟩ := hh
                        simp only [slV] at c1 r1 x1
                        have R9 := Lib.hid r1
                        have X9 := Lib.hid x1
                        clear hcell hrd r1 x1
                        subst hB1
                        go_wp2
                        go_meet
                        exact ⟨⟨A1, n1, d1, L, rfl, R9.out.below O5.out.bel (Nat.le_refl _), fun h0 g hg => (by obtain ⟨b9, o9, e9, h9, _⟩ := R9.out.2 h0; rw [e9] at hg; simp only [Option.map_some, Option.some.injEq] at hg; omega), X9.out⟩, rfl⟩
                      · go_wp2
                        go_meet
                        exact ⟨⟨none, 0, 0, [], rfl, ⟨rfl, Row.nil _ _ _⟩, fun h => absurd h (by omega), by unfold maxLen; omega⟩, rfl⟩
                    case rest =>
                      obtain ⟨⟨C, nC, dC, cs, rfl, hrC, hbC, hmC⟩, rfl⟩ := hcut
                      have hcr := s_crash O5.out.sd O5.out.size C nC dC cs hrC hbC hmC
                      have hmc := HM.out.crash cs
                      generalize crashV D' cs = Dc at *
                      clear hrC hbC hmC HM
                      rcases hmc with hi | ⟨hz, hi⟩
                      · obtain ⟨oo, ho⟩ := hi.open_
                        have hI2 := Lib.hid (hi.ops oo)
                        have hld := hi.loads
                        have hmany := hi.many
                        have cop2 := fun {W : World} (O : A10 wb W wb.heap.size p ga gb Dc) => (sopen_any O.sd O.size O.a O.b (by omega) (by omega) (by rw [hmany]; omega) (by rw [hmany]; omega)).mono fun e w' hp => (show ∃ g2, e = .returned (.tuple #[.pointer (some ⟨g2, 0, none⟩), .int .i64 0]) ∧ W.heap.size ≤ g2 ∧ SlotsAt w' wb.heap.size g2 ga gb s' ∧ DiskS w' wb.heap.size p { Dc with ops := oo } ∧ Step mutD wb.heap.size p W w' from by
                          rw [ho] at hp
                          obtain ⟨P, e1, _, e3, e4, e5⟩ := hp
                          obtain ⟨g2, rfl, q2, q3⟩ := e3 rfl
                          exact ⟨g2, e1, q2, q3, e4, e5⟩)
                        have cld := fun {W : World} {g2 : Nat} (h : SlotsAt W wb.heap.size g2 ga gb s') => load_any h
                        rw [hld] at cld
                        simp only at cld
                        generalize ({ Dc with ops := oo } : DiskV) = De at *
                        clear ho hld hmany hi
                        go_upto_region 38 with (first
                          | ((go_at_call 14; (with_reducible refine (hcr).mono ?_); rintro e w6 ⟨rfl, h6, st6⟩); have O6 := Lib.hid (O5.out.step st6 h6); have L7 := Lib.hid (L6.out.step O5.out.sd st6 (by decide)); have XB6 := Lib.hid (XB5.out.step O5.out.sd st6 (by decide)); clear h6 st6 hcr)
                          | ((go_at_call 11; (with_reducible refine (cop2 O6.out).mono ?_); rintro e w7 ⟨g2, rfl, hg2, hs7, hd7, st7⟩); have O7 := Lib.hid (O6.out.step st7 hd7); have SA7 := Lib.hid hs7; have L8 := Lib.hid (L7.out.step O6.out.sd st7 (by decide)); have XB8 := Lib.hid (XB6.out.step O6.out.sd st7 (by decide)); have hgg2 : wb.heap.size ≤ g2 := (by have := O6.out.size; omega); clear hs7 hd7 st7)
                          | fail "no arm")
                        by_cases h0 : nS' = 0
                        · subst h0
                          have hB : decide (((0 : Nat) : Int) > 0) = false := rfl
                          rw [hB] at cld
                          have c9 := cld SA7.out
                          clear cld cop2
                          go_upto_region 39 with (first
                            | ((go_at_call 15; (with_reducible refine (c9).mono ?_); rintro e w8 ⟨B8, n8, c8, rfl, ob8, b8⟩); have O8 := Lib.hid (O7.out.below b8); have SA8 := Lib.hid (SA7.out.below b8); have LB := Lib.hid (BytesAt.of_ob (base := wb.heap.size) (h := ⟨B8, n8, c8⟩) ob8); have HSM := Lib.hid (same_eq B8 BL' n8 nL' c8 cL' _ w8 ob8.rd.rb (L8.out.below b8).1 (by have := ob8.cap; omega)); clear ob8 b8)
                            | fail "no arm")
                          go_wp2_with (first
                            | ((go_at_call 16; (with_reducible refine (HSM.out).mono ?_); rintro e w9 ⟨rfl, q9, rfl⟩); have O9 := Lib.hid (O8.out.below (below_drewN (Below.refl w8.heap.size w8) q9)); have SA9 := Lib.hid (SA8.out.below (below_drewN (Below.refl w8.heap.size w8) q9)); have LB9 := Lib.hid (LB.out.below (below_drewN (Below.refl w8.heap.size w8) q9)))
                            | fail "no arm")
                          have LB10 := Lib.hid (show BytesAt (w8.drewN q9) wb.heap.size ⟨B8, n8, c8⟩ (s').load from (by first | exact LB9.out | (rw [hldd]; exact LB9.out)))
                          go_roundw
                          case rel => first
                            | exact ⟨k + 1, by omega, by go_num, De, s', g2, 0, cn + 1, n8, c8, B8, rfl, hgg2, rfl, LB10.out, rfl, by go_num, by omega, by omega, hI2.out, O9.out, SA9.out⟩
                            | ((repeat apply Exists.intro); exact ⟨⟨k + 1, by omega, by go_num, De, s', g2, 0, cn + 1, n8, c8, B8, rfl, hgg2, rfl, LB10.out, rfl, by go_num, by omega, by omega, hI2.out, O9.out, SA9.out⟩, rfl⟩)
                          case measure => simp [intOf]; omega
                        · have hgt : (0 : Int) < (nS' : Int) := by omega
                          have hB : decide ((nS' : Int) > 0) = true := decide_eq_true (by omega)
                          clear h0
                          rw [hB] at cld
                          have c9 := cld SA7.out
                          clear cld cop2
                          go_upto_region 39 with (first
                            | ((go_at_call 15; (with_reducible refine (c9).mono ?_); rintro e w8 ⟨B8, n8, c8, rfl, ob8, b8⟩); have O8 := Lib.hid (O7.out.below b8); have SA8 := Lib.hid (SA7.out.below b8); have LB := Lib.hid (BytesAt.of_ob (base := wb.heap.size) (h := ⟨B8, n8, c8⟩) ob8); have HSM := Lib.hid (same_eq B8 BL' n8 nL' c8 cL' _ w8 ob8.rd.rb (L8.out.below b8).1 (by have := ob8.cap; omega)); clear ob8 b8)
                            | fail "no arm")
                          go_wp2_with (first
                            | ((go_at_call 16; (with_reducible refine (HSM.out).mono ?_); rintro e w9 ⟨rfl, q9, rfl⟩); have O9 := Lib.hid (O8.out.below (below_drewN (Below.refl w8.heap.size w8) q9)); have SA9 := Lib.hid (SA8.out.below (below_drewN (Below.refl w8.heap.size w8) q9)); have LB9 := Lib.hid (LB.out.below (below_drewN (Below.refl w8.heap.size w8) q9)))
                            | fail "no arm")
                          have LB10 := Lib.hid (show BytesAt (w8.drewN q9) wb.heap.size ⟨B8, n8, c8⟩ (s').load from (by first | exact LB9.out | (rw [hldd]; exact LB9.out)))
                          go_roundw
                          case rel => first
                            | exact ⟨k + 1, by omega, by go_num, De, s', g2, nS', cn + 1, n8, c8, B8, rfl, hgg2, rfl, LB10.out, rfl, by go_num, by omega, by omega, hI2.out, O9.out, SA9.out⟩
                            | ((repeat apply Exists.intro); exact ⟨⟨k + 1, by omega, by go_num, De, s', g2, nS', cn + 1, n8, c8, B8, rfl, hgg2, rfl, LB10.out, rfl, by go_num, by omega, by omega, hI2.out, O9.out, SA9.out⟩, rfl⟩)
                          case measure => simp [intOf]; omega
                      · obtain ⟨oo, ho⟩ := hi.open_
                        have hI2 := Lib.hid (hi.ops oo)
                        have hld := hi.loads
                        have hmany := hi.many
                        have hnx := HNX.out (by omega)
                        subst hnx
                        subst hz
                        have hldd : (⟨othS s', ((nS' + 1 : Nat) : Int), x.b⟩ : SlV3).load = x.b := rfl
                        generalize (⟨othS s', ((nS' + 1 : Nat) : Int), x.b⟩ : SlV3) = s2 at *
                        have cop2 := fun {W : World} (O : A10 wb W wb.heap.size p ga gb Dc) => (sopen_any O.sd O.size O.a O.b (by omega) (by omega) (by rw [hmany]; omega) (by rw [hmany]; omega)).mono fun e w' hp => (show ∃ g2, e = .returned (.tuple #[.pointer (some ⟨g2, 0, none⟩), .int .i64 0]) ∧ W.heap.size ≤ g2 ∧ SlotsAt w' wb.heap.size g2 ga gb s2 ∧ DiskS w' wb.heap.size p { Dc with ops := oo } ∧ Step mutD wb.heap.size p W w' from by
                          rw [ho] at hp
                          obtain ⟨P, e1, _, e3, e4, e5⟩ := hp
                          obtain ⟨g2, rfl, q2, q3⟩ := e3 rfl
                          exact ⟨g2, e1, q2, q3, e4, e5⟩)
                        have cld := fun {W : World} {g2 : Nat} (h : SlotsAt W wb.heap.size g2 ga gb s2) => load_any h
                        rw [hld] at cld
                        simp only at cld
                        generalize ({ Dc with ops := oo } : DiskV) = De at *
                        clear ho hld hmany hi
                        go_upto_region 38 with (first
                          | ((go_at_call 14; (with_reducible refine (hcr).mono ?_); rintro e w6 ⟨rfl, h6, st6⟩); have O6 := Lib.hid (O5.out.step st6 h6); have L7 := Lib.hid (L6.out.step O5.out.sd st6 (by decide)); have XB6 := Lib.hid (XB5.out.step O5.out.sd st6 (by decide)); clear h6 st6 hcr)
                          | ((go_at_call 11; (with_reducible refine (cop2 O6.out).mono ?_); rintro e w7 ⟨g2, rfl, hg2, hs7, hd7, st7⟩); have O7 := Lib.hid (O6.out.step st7 hd7); have SA7 := Lib.hid hs7; have L8 := Lib.hid (L7.out.step O6.out.sd st7 (by decide)); have XB8 := Lib.hid (XB6.out.step O6.out.sd st7 (by decide)); have hgg2 : wb.heap.size ≤ g2 := (by have := O6.out.size; omega); clear hs7 hd7 st7)
                          | fail "no arm")
                        have hgt : (0 : Int) < (nS' : Int) + 1 := by omega
                        have hB : decide (((nS' + 1 : Nat) : Int) > 0) = true := decide_eq_true (by omega)
                        rw [hldd] at cld
                        rw [hB] at cld
                        have c9 := cld SA7.out
                        clear cld cop2
                        go_upto_region 39 with (first
                          | ((go_at_call 15; (with_reducible refine (c9).mono ?_); rintro e w8 ⟨B8, n8, c8, rfl, ob8, b8⟩); have O8 := Lib.hid (O7.out.below b8); have SA8 := Lib.hid (SA7.out.below b8); have LB := Lib.hid (BytesAt.of_ob (base := wb.heap.size) (h := ⟨B8, n8, c8⟩) ob8); have HSM := Lib.hid (same_eq B8 B n8 m c8 d _ w8 ob8.rd.rb (XB8.out.below b8).1 (by have := ob8.cap; omega)); clear ob8 b8)
                          | fail "no arm")
                        go_wp2_with (first
                          | ((go_at_call 16; (with_reducible refine (HSM.out).mono ?_); rintro e w9 ⟨rfl, q9, rfl⟩); have O9 := Lib.hid (O8.out.below (below_drewN (Below.refl w8.heap.size w8) q9)); have SA9 := Lib.hid (SA8.out.below (below_drewN (Below.refl w8.heap.size w8) q9)); have LB9 := Lib.hid (LB.out.below (below_drewN (Below.refl w8.heap.size w8) q9)))
                          | fail "no arm")
                        have LB10 := Lib.hid (show BytesAt (w8.drewN q9) wb.heap.size ⟨B8, n8, c8⟩ (s2).load from (by first | exact LB9.out | (rw [hldd]; exact LB9.out)))
                        go_roundw
                        case rel => first
                          | exact ⟨k + 1, by omega, by go_num, De, s2, g2, (nS' + 1), cn + 1, n8, c8, B8, rfl, hgg2, rfl, LB10.out, rfl, by go_num, by omega, by omega, hI2.out, O9.out, SA9.out⟩
                          | ((repeat apply Exists.intro); exact ⟨⟨k + 1, by omega, by go_num, De, s2, g2, (nS' + 1), cn + 1, n8, c8, B8, rfl, hgg2, rfl, LB10.out, rfl, by go_num, by omega, by omega, hI2.out, O9.out, SA9.out⟩, rfl⟩)
                        case measure => simp [intOf]; omega
        · have hk9 : k = n := by omega
          subst hk9
          go_wp2
          go_ret
          exact ⟨rfl, HB.out.trans (HO.out.bel.mono (by have := B2.out.size; omega))⟩
set_option maxRecDepth 100000 in
set_option maxHeartbeats 8000000 in
theorem walk_few (A0 C0 : Option Addr) (n m0 c0 d0 : Nat) (l : List DoV) (ls : List (List UInt8)) (w : World) (h1 : DosRd w A0 n l) (hn : n ≤ maxLen) (q1 : few10B l = false) :
    Calls Try.prog 3 #[.slice A0 n c0, .slice C0 m0 d0] w fun e w' => e = .returned (.bool true) ∧ Below w.heap.size w w' := by
  have hf1 := fun w h => few10_any A0 n c0 l w h hn
  rw [q1] at hf1
  clear q1
  go_enter Try.func3, Try.ntmps3
  go_wp2_with (first
    | ((go_at_call 8; (with_reducible refine (awake10 _).mono ?_); rintro e w1 ⟨rfl, hb1⟩); have HB1 := Lib.hid hb1; have s1 := hb1.size; have R1 := Lib.hid (h1.below hb1 (Nat.le_refl _)); clear hb1)
    | ((go_at_call 9; (with_reducible refine (hf1 _ R1.out).mono ?_); rintro e w2 ⟨rfl, hb2⟩); have HB2 := Lib.hid (HB1.out.trans (hb2.mono s1)); clear hb2)
    | fail "no arm")
  go_ret
  exact ⟨rfl, HB2.out⟩
set_option maxRecDepth 100000 in
set_option maxHeartbeats 8000000 in
theorem walk_many (A0 C0 : Option Addr) (n m0 c0 d0 : Nat) (l : List DoV) (w : World) (h1 : DosRd w A0 n l) (hn : n ≤ maxLen) (q1 : few10B l = true) (hm0 : 20 < m0) (hmm : m0 ≤ maxLen) :
    Calls Try.prog 3 #[.slice A0 n c0, .slice C0 m0 d0] w fun e w' => e = .returned (.bool true) ∧ Below w.heap.size w w' := by
  have hf1 := fun w h => few10_any A0 n c0 l w h hn
  rw [q1] at hf1
  unfold maxLen at hmm
  clear q1
  go_enter Try.func3, Try.ntmps3
  go_wp2_with (first
    | ((go_at_call 8; (with_reducible refine (awake10 _).mono ?_); rintro e w1 ⟨rfl, hb1⟩); have HB1 := Lib.hid hb1; have s1 := hb1.size; have R1 := Lib.hid (h1.below hb1 (Nat.le_refl _)); clear hb1)
    | ((go_at_call 9; (with_reducible refine (hf1 _ R1.out).mono ?_); rintro e w2 ⟨rfl, hb2⟩); have HB2 := Lib.hid (HB1.out.trans (hb2.mono s1)); clear hb2)
    | fail "no arm")
  go_ret
  exact ⟨rfl, HB2.out⟩
theorem walk (w : World) (v0 : Value) (h1 : ∃ A n c l, v0 = .slice A n c ∧ DosRd w A n l ∧ n ≤ c ∧ c ≤ maxLen) (v1 : Value) (h2 : ∃ A n c l, v1 = .slice A n c ∧ LsRd w A n l ∧ n ≤ c ∧ c ≤ maxLen) :
    Calls Try.prog 3 #[v0, v1] w fun e w' => e = .returned (.bool true) ∧ Below w.heap.size w w' := by
  obtain ⟨A0, n, c0, l, rfl, r1, nc1, cm1⟩ := h1
  obtain ⟨C0, m0, d0, ls, rfl, r2, nc2, cm2⟩ := h2
  cases q : few10B l with
  | false => exact walk_few A0 C0 n m0 c0 d0 l ls w r1 (by omega) q
  | true =>
    by_cases hm : m0 ≤ 20
    · exact walk_main A0 C0 n m0 c0 d0 l ls w r1 r2 q hm
    · exact walk_many A0 C0 n m0 c0 d0 l w r1 (by omega) q (by omega) (by omega)

--FRAME tompionlaw10 SlotsWhole slotsWhole walk raw:[]tompionlaw10.Do:args_dos10:.slice‹_›none‹_›0‹_›0 raw:[][]uint8:args_ll:.slice‹_›none‹_›0‹_›0
theorem own : ownKnob Try.prog.godebug = none := by kernel_rfl
theorem laidOut : laidOutB Try.prog = true := by kernel_rfl

set_option maxRecDepth 100000 in
theorem lifted (os : Os) (started : os.Started) (H : Type) (enc : TypeId × Value → H) :
    ReturnsInHanded {} Try.checked os 3 .any (Rows.slotsWholeSpec.pre6 enc Try.prog Try.f3 Rows.slotsWholeRow.domain false) (Rows.slotsWholeSpec.post enc Try.prog Try.f3 false true false false) := by
  refine returnsInHanded_of_change (C := Try.checked) own started (by kernel_rfl) Try.func3
    (ChangeSpec.witness6 (enc := enc) (C := Try.checked) false ⟨#[], #[.slice none 0 0, .slice none 0 0], []⟩ 8 (by kernel_rfl) (by kernel_rfl) (by kernel_rfl) (by kernel_rfl)) ?_
  intro W base args ds gs before hval0 hW hcnd _
  have hval : ∀ (j : Nat) t v, Try.f3.params[j]? = some t → args[j]? = some v → Value.okWide Try.prog W .any base t v := hval0
  have hW' := hW
  obtain ⟨p, q, hA0, hV, rfl, hfz, hnd⟩ := hW
  have hA : DataW.TrodAll enc Try.prog W 0 (fun _ => true) true Try.f3.params.toList args.toList ds p := hA0
  rw [Try.params3] at hA hval
  obtain ⟨v0, vs0, d0, ds0, p0, q0, hargs, rfl, rfl, h0, rr0⟩ := trodAll_cons hA
  obtain ⟨v1, vs1, d1, ds1, p1, q1, rfl, rfl, rfl, h1, rr1⟩ := trodAll_cons rr0
  obtain ⟨rfl, rfl, rfl⟩ := trodAll_nil rr1
  obtain rfl : args = #[v0, v1] := by cases args; simp_all
  obtain ⟨rfl, rfl⟩ := trodVars_none hV
  have k0 := h0
  have lt0 : ∀ x ∈ p0, x.block < W.heap.size := by obtain ⟨m, hm⟩ := k0; exact DataW.trod_lt m _ _ _ hm
  have x0 := args_dos10 (hval 0 22 v0 rfl rfl) h0
  have k1 := h1
  have lt1 : ∀ x ∈ p1, x.block < W.heap.size := by obtain ⟨m, hm⟩ := k1; exact DataW.trod_lt m _ _ _ hm
  have x1 := args_ll (hval 1 23 v1 rfl rfl) h1
  clear hA0 hval0
  refine (walk W v0 x0 v1 x1).mono fun e W' ⟨he, bel⟩ => ?_
  subst he
  exact ⟨_, rfl, _, _, _, [], _, [], hW', trodAll_mk1 (shut_bool Try.underlying4 _), (trodAll_cons_mk (Below.trod laidOut (by kernel_rfl) (of_decide_eq_true (by kernel_rfl)) k0 bel lt0) (trodAll_cons_mk (Below.trod laidOut (by kernel_rfl) (of_decide_eq_true (by kernel_rfl)) k1 bel lt1) trodAll_mk0)), rfl, bel.frame _, fun h => by cases h⟩

theorem over : Rows.slotsWholeRow.holds Try.pinned (OpenSpec.ofChange Rows.slotsWholeSpec) :=
  OpenClaim.holds_of_wide 3 Try.f3 rfl rfl rfl rfl rfl rfl rfl ⟨rfl, rfl, rfl, rfl, rfl⟩ rfl rfl rfl rfl rfl (by kernel_rfl) Try.func3 (by kernel_rfl)
    (of_decide_eq_true (by kernel_rfl)) (by unfold Func.isWrapper; first | (rw [if_pos (by decide +kernel)]; kernel_rfl) | (rw [if_neg (by decide +kernel)]; exact ⟨rfl, rfl⟩))
    (fun os started H enc _ => lifted os started H enc)

theorem proved : Rows.SlotsWholeSaid := over
--ENDFRAME
end Go.Proofs.Ytalmdccgpigppaa.slotsWhole
