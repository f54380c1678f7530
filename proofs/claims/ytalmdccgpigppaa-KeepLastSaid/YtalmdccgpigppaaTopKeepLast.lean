/- KeepLast. -/
import Derived.Test.YtalmdccgpigppaaPr52
import Derived.Test.YtalmdccgpigppaaPr53
import Derived.IntWalk
namespace Go.Proofs.Ytalmdccgpigppaa
open Go.RowKit
set_option linter.unusedVariables false
set_option linter.unusedSimpArgs false
theorem kOf_len {p : PV} {hash : Int} {D : DiskV} {s : SlV3} {n : Nat} {last : Int} {is : List Int} (h : KInv p hash D s n last is) : (kOf hash s n last is).last.cells.length ≤ 100 := by
  unfold kOf
  rcases Nat.eq_zero_or_pos n with q | q
  · rw [if_pos q]; simp [noSnap]
  · rw [if_neg (by omega)]
    obtain ⟨_, h2, _⟩ := h.some_ q
    obtain ⟨m1, _, _, m4, _⟩ := stFits_true.1 h2
    have := (mayB_true.1 m1).2.2.2.2.1
    simp only at m4 ⊢
    omega
theorem KInv.cutTo {p : PV} {hash : Int} {D : DiskV} {s : SlV3} {n : Nat} {last : Int} {is : List Int} (h : KInv p hash D s n last is) (c : Int) (h0 : -1 ≤ c) (h1 : c ≤ 9223372036854775807) : KInv p hash { D with cut := c } s n last is := ⟨h.sl.cutTo c h0 h1, h.none_, h.some_⟩
theorem intOk_all {l : List Int} (h : IntOk l) : ∀ z ∈ l, I64 z := fun z hz => by
  obtain ⟨i, hi, e⟩ := List.getElem_of_mem hz
  have := h i hi
  unfold intAt at this
  rw [List.getD_eq_getElem?_getD, List.getElem?_eq_getElem hi] at this
  rw [← e]; exact this
section
variable {w0 W : World} {base ga gb g n : Nat} {p : DiskP} {D : DiskV} {x : PA} {s : SlV3} {last : Int} {L : List Int}
theorem snap_set {gy i : Nat} {cs : List Value} {u : Value} {k : KpV} {xp : PA} (O : A10 w0 W base p ga gb D) (Y : Blk W gy 98 cs) (hg : base ≤ gy) :
    Step [98] base p W (W.setCell ⟨gy, i, none⟩ u) ∧ A10 w0 (W.setCell ⟨gy, i, none⟩ u) base p ga gb D := by
  have st : Step [98] base p W (W.setCell ⟨gy, i, none⟩ u) := Step.one (grown_setCell _) Y (List.mem_cons_self ..) hg O.size
  have hd : DiskS (W.setCell ⟨gy, i, none⟩ u) base p D := by
    obtain ⟨A9, c9, h9⟩ := O.sd
    exact ⟨A9, c9, h9.keep (F := (· = gy)) (Keep.one (grown_setCell _)) (fun g9 hf e => by
      subst e
      rcases h9.foot_ty Y hf with q | q | q | q | q <;> exact absurd q (by decide))⟩
  exact ⟨st, hd, O.sd.area O.a st.tch (by decide), O.sd.area O.b st.tch (by decide), O.bel.trans st.bel, O.bs⟩
theorem kopen_of (O : A10 w0 W base p ga gb D) (I : KInv delayP delayH D s n last L) (P : ProgAt W base x delayP) :
    Calls Try.prog 40 #[.pointer (some ⟨ga, 0, none⟩), .pointer (some ⟨gb, 0, none⟩), .agg #[.slice x.A1 x.n1 x.c1, .slice x.A2 x.n2 x.c2, .int .i64 delayP.regs, .slice x.A3 x.n3 x.c3, .slice x.A4 x.n4 x.c4]] W fun e w' =>
      ∃ g D2, e = .returned (.tuple #[.pointer (some ⟨g, 0, none⟩), .int .i64 0]) ∧ W.heap.size ≤ g ∧ KeepAt w' base g ga gb x delayP delayH (kOf delayH s n last L) ∧ A10 w0 w' base p ga gb D2 ∧ KInv delayP delayH D2 s n last L ∧ Step mutD base p W w' := by
  obtain ⟨o, e⟩ := I.open_ delay_right
  have h := kdelay_open O I.sl.many P _ e rfl
  exact h.mono fun e w' ⟨g, h1, h2, h3, h4, h5⟩ => ⟨g, _, h1, h2, h3, O.step h5 h4, I.ops o, h5⟩
theorem klast_of (K : KeepAt W base g ga gb x delayP delayH (kOf delayH s n last L)) (I : KInv delayP delayH D s n last L) :
    Calls Try.prog 43 #[.pointer (some ⟨g, 0, none⟩)] W fun e w' => ∃ A m c yt yh hb, e = .returned (.tuple #[.agg #[.int .i64 yt, .int .i64 yh, .slice A m c], .bool hb]) ∧ Ow iv w' W.heap.size 3 A m c L ∧ (hb = true → yt = last) ∧ (hb = false → last = -1) ∧ Below W.heap.size W w' := by
  refine (klast_any K (kOf_len I)).mono fun e w' ⟨A, m, c, h1, h2, h3⟩ => ⟨A, m, c, _, _, _, h1, ?_, ?_, ?_, h3⟩
  · rcases Nat.eq_zero_or_pos n with q | q
    · obtain ⟨_, e2⟩ := I.none_ q
      subst q e2
      exact h2
    · have : (lastKV (kOf delayH s n last L)).cells = L := by
        unfold lastKV kOf
        simp only
        rw [if_pos (by simpa using q), if_neg (by omega)]
      rwa [this] at h2
  · intro hb
    have hq : 0 < n := by simpa [kOf] using hb
    unfold lastKV kOf
    simp only
    rw [if_pos (by simpa using hq), if_neg (by omega)]
  · intro hb
    have hq : n = 0 := by
      have : ¬ 0 < n := by simpa [kOf] using hb
      omega
    exact (I.none_ hq).1
end
def doC (x : DoW) (C : Option Addr) (q e : Nat) (B : Option Addr) (m d : Nat) : List Value := [.int .i64 x.kind, .int .i64 x.n, .slice C q e, .slice B m d]
def RelK (w1 : World) (ga gb : Nat) (p : DiskP) (k : Nat) (kv la is : Value) (wr : World) : Prop :=
  ∃ (D : DiskV) (s : SlV3) (n : Nat) (last : Int) (L : List Int) (gk nL cL : Nat) (AL : Option Addr) (kp : KpV) (x : PA), kv = .pointer (some ⟨gk, 0, none⟩) ∧ la = .int .i64 last ∧ is = .slice AL nL cL ∧ IntsAt wr w1.heap.size AL nL L ∧
    KInv delayP delayH D s n last L ∧ kp.s = s ∧ n ≤ k ∧ A10 w1 wr w1.heap.size p ga gb D ∧ KeepAt wr w1.heap.size gk ga gb x delayP delayH kp
end Go.Proofs.Ytalmdccgpigppaa
namespace Go.Proofs.Ytalmdccgpigppaa.keepLast
open Go.ChangeShapes Go.WideShapes Go.ChangeAt Go.RowKit
set_option linter.unusedVariables false
set_option linter.unusedSimpArgs false
set_option maxRecDepth 100000 in
set_option maxHeartbeats 20000000 in
theorem walk_main (A0 : Option Addr) (n c0 : Nat) (l : List DoW) (w : World) (h1 : DosW w A0 n l) (q1 : few37B l = true) :
    Calls Try.prog 7 #[.slice A0 n c0] w fun e w' => e = .returned (.bool true) ∧ Below w.heap.size w w' := by
  have hq := few37B_true q1
  rw [h1.1] at hq
  obtain ⟨hn20, hsm⟩ := hq
  have hf1 := fun w h => few37_any A0 n c0 l w h (by unfold maxLen; omega)
  rw [q1] at hf1
  have Hsm := Lib.hid hsm
  have Hl1 := Lib.hid h1.1
  have hmd := fun w => (show Calls Try.prog 39 #[.slice none 0 0] w (Made10 w D10a) from made37_ok none 0 0 [] w ⟨rfl, Row.nil _ _ _⟩ (by omega) (by omega) (by show ((0 : Nat) : Int) ≤ 12; omega))
  have kA := k37_a
  have eA : kOpenV D10a 0 6 6 6 delayP delayH = K37a := rfl
  have mD : D10a.many = 12 := SInv.blank.many
  have cop := fun {w0 W : World} {base ga gb : Nat} {p : DiskP} {x : PA} (O : A10 w0 W base p ga gb D10a) (P : ProgAt W base x delayP) => kdelay_open O mD P K37a eA kA.1
  have T0 := Lib.hid kA.2
  clear kA eA mD hsm
  generalize K37a = o1 at *
  generalize D10a = dd0 at *
  go_enter Try.func7, Try.ntmps7
  go_wp2_with (first
    | ((go_at_call 37; (with_reducible refine (awake37 _).mono ?_); rintro e w1 ⟨rfl, hb1⟩); have s1 := hb1.size; have HB1 := Lib.hid hb1; have R1 := Lib.hid (h1.below hb1 (Nat.le_refl _)); clear hb1)
    | ((go_at_call 38; (with_reducible refine (hf1 _ R1.out).mono ?_); rintro e w2 ⟨rfl, hb2⟩); have HB2 := Lib.hid (HB1.out.trans (hb2.mono s1)); have R2 := Lib.hid (R1.out.below hb2 (Nat.le_refl _)); clear hb2)
    | ((go_at_call 39; (with_reducible refine (hmd w2).mono ?_); rintro e w3 ⟨p, ga, gb, rfl, o3⟩); have O3 := Lib.hid o3; clear o3)
    | ((go_at_call 41; (with_reducible refine (delay_any _).mono ?_); rintro e w4 ⟨x4, rfl, px4, bx4⟩); have O4 := Lib.hid (O3.out.below bx4); have P4 := Lib.hid (px4 w2.heap.size); clear px4 bx4)
    | ((go_at_call 40; (with_reducible refine (cop O4.out P4.out).mono ?_); rintro e w5 ⟨g5, rfl, hg5, k5, d5, t5⟩); have O5 := Lib.hid (O4.out.step t5 d5); have K5 := Lib.hid k5; have hgg : w2.heap.size ≤ g5 := (by have := O4.out.size; omega); clear k5 d5 t5)
    | fail "no arm")
  clear hmd cop hf1 O3 O4 P4
  generalize w2 = wb at *
  go_loopw [6, 7, 8, 9, 10, 11, 13, 14, 15, 16, 38] (fun kv _ la _ is _ _ _ _ _ i wr => ∃ k : Nat, k ≤ n ∧ i = .int .i64 (k : Nat) ∧ RelK wb ga gb p k kv la is wr) (fun _ _ _ _ _ _ _ _ _ _ i _ => n - (intOf i).toNat)
  case atStart => exact ⟨0, by omega, rfl, o1.1, _, 0, -1, [], g5, 0, 0, none, o1.2.1, x4, rfl, rfl, rfl, IntsAt.nil _ _, T0.out, rfl, Nat.le_refl _, O5.out, K5.out⟩
  case round =>
    clear T0 O5 K5
    obtain ⟨k, hk, rfl, D, s, nS, last, L, gk, nL, cL, AL, kp, xp, rfl, rfl, rfl, hL, hinv, hkps, hnS, hO, hK⟩ := hrel
    have HO := Lib.hid hO
    have HK := Lib.hid hK
    have HL := Lib.hid hL
    have HI := Lib.hid hinv
    have HS := Lib.hid hkps
    clear hO hK hL hinv hkps
    by_cases hlt : k < n
    · obtain ⟨x, hx⟩ : ∃ x, l[k]? = some x := ⟨_, List.getElem?_eq_getElem (by rw [Hl1.out]; exact hlt)⟩
      obtain ⟨b, o, C, q, e, B, m, d, hA0, hri, hqe, hem, hrb, hmd, hdm, hxn, hok, hget⟩ := R2.out.get hx
      obtain ⟨hbl, e0, e1, e2, e3⟩ := hget wr _ HO.out.bel (Nat.le_refl _)
      have hsx := Hsm.out x (List.mem_of_getElem? hx)
      have hq100 : q ≤ 100 := by rw [← hri.1]; exact hsx.2
      have hm200 : m ≤ 200 := by rw [← hrb.1]; exact hsx.1
      have bX : Below wr.heap.size wr (wr.alloc (.cells #[.int .i64 x.kind, .int .i64 x.n, .slice C q e, .slice B m d] 95)) := (Below.refl _ _).alloc (Nat.le_refl _) _
      have HX := Lib.hid (show Blk (wr.alloc (.cells #[.int .i64 x.kind, .int .i64 x.n, .slice C q e, .slice B m d] 95)) wr.heap.size 95 (doC x C q e B m d) from Blk.top _ rfl rfl)
      have HO2 := Lib.hid (HO.out.below bX)
      have HK2 := Lib.hid (HK.out.below bX)
      have HL2 := Lib.hid (HL.out.below bX)
      have HXL := Lib.hid (IntsAt.old (base := wb.heap.size) hri (by unfold maxLen; omega) HO2.out.bel (Nat.le_refl _))
      have HXB := Lib.hid (show ∀ (W : World), Below wb.heap.size wb W → RB W B m x.b from fun W hb => hrb.below hb (Nat.le_refl _))
      have HXO := Lib.hid (show 0 < m → ∀ g, B.map (·.block) = some g → g < wb.heap.size from fun h0 g hg => by
        obtain ⟨b9, o9, e9, h9, _⟩ := hrb.2 h0
        rw [e9] at hg
        simp only [Option.map_some, Option.some.injEq] at hg
        omega)
      have hsnap := Lib.hid (snap37 x.n x.l hxn (intOk_all hok))
      obtain ⟨hc1, hc2⟩ := (show -9 < x.n.tmod 9 ∧ x.n.tmod 9 < 9 from ⟨Int.lt_tmod_of_pos _ (by omega), Int.tmod_lt_of_pos _ (by omega)⟩)
      have hwm : IntKind.i64.wrap (x.n.tmod 9) = x.n.tmod 9 := IntWalk.i64_in _ (by omega)
      have hC := s_cut HO2.out.sd HO2.out.size (x.n.tmod 9) (by omega)
      have hI1 := HI.out.cutTo (max (x.n.tmod 9) (-1)) (by omega) (by omega)
      generalize ({ D with cut := max (x.n.tmod 9) (-1) } : DiskV) = D1 at *
      have csv := fun {W : World} (O : A10 wb W wb.heap.size p ga gb D1) (K : KeepAt W wb.heap.size gk ga gb xp delayP delayH kp) (I : IntsAt W wb.heap.size C q x.l) => kdelay_save (tick := x.n) (c := e) O hI1.sl.many K I (by omega) (by rw [HS.out, hI1.sl.num]; omega) (by rw [hI1.sl.waits]; simp)
      have hsv := hI1.saved (by omega) kp HS.out hsnap.out
      generalize kSaveV D1 0 6 6 6 delayP delayH kp x.n x.l = R at *
      obtain ⟨D', k', z⟩ := R
      simp only at csv hsv
      have HSV := Lib.hid hsv
      have HX9 := Lib.hid hx
      clear hsv hri hrb hget hsx hmd hdm hqe hem bX HO HK HL HI hI1 hok hx
      subst hA0
      go_upto_region 17 with (first
        | ((go_at_call 12; (with_reducible refine (hC).mono ?_); rintro e w5 ⟨rfl, h5, st5⟩); have O5 := Lib.hid (HO2.out.step st5 h5); have K5 := Lib.hid (HK2.out.step HO2.out.sd st5 (by decide) (by decide) (by decide) (by decide) (by decide) (by decide)); have L5 := Lib.hid (HL2.out.step HO2.out.sd st5 (by decide)); have XL5 := Lib.hid (HXL.out.step HO2.out.sd st5 (by decide)); have X5 := Lib.hid (HO2.out.sd.blk HX.out st5.tch (by decide)); have y1 : w5.cell? ⟨wr.heap.size, 1, none⟩ = some (.int .i64 x.n) := X5.out.cell 1; have y2 : w5.cell? ⟨wr.heap.size, 2, none⟩ = some (.slice C q e) := X5.out.cell 2; clear h5 st5)
        | ((go_at_call 42; (with_reducible refine (csv O5.out K5.out XL5.out).mono ?_); rintro e w6 ⟨rfl, h6, k6, st6⟩); have O6 := Lib.hid (O5.out.stepK st6 h6); have K6 := Lib.hid k6; have L6 := Lib.hid (L5.out.step O5.out.sd st6 (by decide)); have XL6 := Lib.hid (XL5.out.step O5.out.sd st6 (by decide)); have X6 := Lib.hid (O5.out.sd.blk X5.out st6.tch (by decide)); have z0 : w6.cell? ⟨wr.heap.size, 0, none⟩ = some (.int .i64 x.kind) := X6.out.cell 0; have z1 : w6.cell? ⟨wr.heap.size, 1, none⟩ = some (.int .i64 x.n) := X6.out.cell 1; have z2 : w6.cell? ⟨wr.heap.size, 2, none⟩ = some (.slice C q e) := X6.out.cell 2; have z3 : w6.cell? ⟨wr.heap.size, 3, none⟩ = some (.slice B m d) := X6.out.cell 3; clear h6 k6 st6)
        | fail "no arm")
      have lx6 := X6.out.lt
      clear hC csv HO2 HK2 HL2 HXL HX O5 K5 L5 XL5 X5 y1 y2
      rcases HSV.out with ⟨hz, i1⟩ | ⟨hz, i2, i3⟩
      · subst hz
        have I6 := Lib.hid i1
        clear HSV i1
        go_upto_region 18 with fail
        go_region
        go_upto_region 20 with fail
        go_region
        go_upto_region 21 with fail
        have bD : Below w6.heap.size w6 w6.drew.drew := (by (repeat' (first | (with_reducible exact Below.refl _ _) | (with_reducible assumption) | (with_reducible refine Below.drew ?_) | (with_reducible refine below_drewN ?_ _) | (with_reducible refine Below.alloc ?_ ?_ _) | (with_reducible refine Below.setCell ?_ ?_ _) | omega | (simp; done) | (simp; omega))))
        have O7 := Lib.hid (O6.out.below bD)
        have K7 := Lib.hid (K6.out.below bD)
        have L7 := Lib.hid (L6.out.below bD)
        have XL7 := Lib.hid (XL6.out.below bD)
        have X7 := Lib.hid (X6.out.below bD lx6)
        have t0 : (w6.drew.drew).cell? ⟨wr.heap.size, 0, none⟩ = some (.int .i64 x.kind) := X7.out.cell 0
        have t3 : (w6.drew.drew).cell? ⟨wr.heap.size, 3, none⟩ = some (.slice B m d) := X7.out.cell 3
        have lx7 := X7.out.lt
        clear bD O6 K6 L6 XL6 X6 z0 z1 z2 z3 lx6
        generalize w6.drew.drew = w7 at *
        by_cases hk3 : x.kind < 3
        · go_wp2_with fail
          go_roundw
          case rel => first
            | exact ⟨k + 1, by omega, by go_num, D', k'.s, nS + 1, x.n, x.l, gk, q, e, C, k', xp, rfl, rfl, rfl, XL7.out, I6.out, rfl, by omega, O7.out, K7.out⟩
            | ((repeat apply Exists.intro); exact ⟨⟨k + 1, by omega, by go_num, D', k'.s, nS + 1, x.n, x.l, gk, q, e, C, k', xp, rfl, rfl, rfl, XL7.out, I6.out, rfl, by omega, O7.out, K7.out⟩, rfl⟩)
          case measure => simp [intOf]; omega
        · have I7 := Lib.hid (I6.out.crash x.b)
          have hcr := s_crash O7.out.sd O7.out.size B m d x.b (HXB.out _ O7.out.bel) HXO.out (by unfold maxLen; omega)
          generalize crashV D' x.b = Dc at *
          go_upto_region 27 with (first
            | ((go_at_call 14; (with_reducible refine (hcr).mono ?_); rintro e w8 ⟨rfl, h8, st8⟩); have O8 := Lib.hid (O7.out.step st8 h8); have LA8 := Lib.hid (XL7.out.step O7.out.sd st8 (by decide)); have LW8 := Lib.hid (XL7.out.step O7.out.sd st8 (by decide)); clear h8 st8)
            | ((go_at_call 41; (with_reducible refine (delay_any _).mono ?_); rintro e w9 ⟨x9, rfl, px9, bx9⟩); have O9 := Lib.hid (O8.out.below bx9); have P9 := Lib.hid (px9 wb.heap.size); have LA9 := Lib.hid (LA8.out.below bx9); have LW9 := Lib.hid (LW8.out.below bx9); clear px9 bx9)
            | ((go_at_call 40; (with_reducible refine (kopen_of O9.out I7.out P9.out).mono ?_); rintro e w10 ⟨g10, Dn, rfl, hg10, k10, o10, i10, t10⟩); have O10 := Lib.hid o10; have K10 := Lib.hid k10; have I10 := Lib.hid i10; have LA10 := Lib.hid (LA9.out.step O9.out.sd t10 (by decide)); have LW10 := Lib.hid (LW9.out.step O9.out.sd t10 (by decide)); have hgg : wb.heap.size ≤ g10 := (by have := O9.out.size; omega); clear k10 o10 i10 t10)
            | ((go_at_call 43; (with_reducible refine (klast_of K10.out I10.out).mono ?_); rintro e w11 ⟨A11, m11, c11, yt, yh, hb, rfl, ow11, hb1, hb0, b11⟩); have O11 := Lib.hid (O10.out.below b11); have K11 := Lib.hid (K10.out.below b11); have OW11 := Lib.hid ow11; have LA11 := Lib.hid (LA10.out.below b11); have LW11 := Lib.hid (LW10.out.below b11); have H1 := Lib.hid hb1; have H0 := Lib.hid hb0; clear ow11 hb1 hb0 b11)
            | fail "no arm")
          clear hcr
          cases hb with
          | false =>
            have bV : Below w11.heap.size w11 (w11.alloc (.cells #[.int .i64 yt, .int .i64 yh, .slice A11 m11 c11] 98)) := (Below.refl _ _).alloc (Nat.le_refl _) _
            have Y12 := Lib.hid (show Blk (w11.alloc (.cells #[.int .i64 yt, .int .i64 yh, .slice A11 m11 c11] 98)) w11.heap.size 98 [.int .i64 yt, .int .i64 yh, .slice A11 m11 c11] from Blk.top _ rfl rfl)
            have O12 := Lib.hid (O11.out.below bV)
            have K12 := Lib.hid (K11.out.below bV)
            have OW12 := Lib.hid (OW11.out.below bV (Nat.le_refl _))
            have LA12 := Lib.hid (LA11.out.below bV)
            have LW12 := Lib.hid (LW11.out.below bV)
            have hgy : wb.heap.size ≤ w11.heap.size := O11.out.size
            clear bV O11 K11 OW11 LA11 LW11
            generalize (w11.alloc (.cells #[.int .i64 yt, .int .i64 yh, .slice A11 m11 c11] 98)) = w12 at *
            generalize w11.heap.size = gy at *
            have E1 := Lib.hid (H0.out rfl)
            obtain ⟨s0, s1, s2⟩ := blk3 Y12.out
            have sf := Y12.out.frozen 0
            have sl := Y12.out.lt
            obtain ⟨st13, o13⟩ := snap_set (i := 0) (u := .int .i64 (-1)) (k := noKeep) (xp := xp) O12.out Y12.out hgy
            have O13 := Lib.hid o13
            have K13 := Lib.hid (K12.out.step O12.out.sd st13 (by decide) (by decide) (by decide) (by decide) (by decide) (by decide))
            have OW13 := Lib.hid (OW12.out.setFar Y12.out (by decide) 0 (.int .i64 (-1)))
            have LA13 := Lib.hid (LA12.out.step O12.out.sd st13 (by decide))
            have LW13 := Lib.hid (LW12.out.step O12.out.sd st13 (by decide))
            have Y13 := Lib.hid (show Blk (w12.setCell ⟨gy, 0, none⟩ (.int .i64 (-1))) gy 98 [.int .i64 (x.n), .int .i64 yh, .slice A11 m11 c11] from by rw [E1.out]; exact Y12.out.set_ 0 (.int .i64 (-1)))
            clear o13 st13
            go_upto_region 29 with fail
            clear s0 s1 s2 sf sl O12 K12 OW12 LA12 LW12 Y12
            generalize (w12.setCell ⟨gy, 0, none⟩ (.int .i64 (-1))) = w13 at *
            obtain ⟨u0, u1, u2⟩ := blk3 Y13.out
            have ul := Y13.out.lt
            have hcp := OW13.out.cap
            have hI := ints_any A11 _ m11 _ c11 (e) (x.l) (x.l) w13 OW13.out.rd.ri LA13.out.ri (by omega)
            rw [decide_eq_true (rfl : (x.l) = (x.l))] at hI
            have IA13 := Lib.hid (IntsAt.of_ow (base := wb.heap.size) OW13.out)
            clear OW13
            go_upto_region 31 with (first
              | ((go_at_call 36; (with_reducible refine (hI).mono ?_); rintro e w14 ⟨rfl, q14, rfl⟩))
              | fail "no arm")
            go_region
            have bE : Below w13.heap.size w13 (w13.drewN (q14 + 1)) := below_drewN (Below.refl _ _) (q14 + 1)
            have O15 := Lib.hid (O13.out.below bE)
            have K15 := Lib.hid (K13.out.below bE)
            have IA15 := Lib.hid (IA13.out.below bE)
            clear bE
            have HRL := Lib.hid (show RelK wb ga gb p (k + 1) (.pointer (some ⟨g10, 0, none⟩)) (.int .i64 (x.n)) (.slice A11 m11 c11) (w13.drewN (q14 + 1)) from ⟨Dn, k'.s, nS + 1, x.n, x.l, g10, m11, c11, A11, kOf delayH (k'.s) (nS + 1) (x.n) (x.l), x9, rfl, rfl, rfl, IA15.out, I10.out, rfl, by omega, O15.out, K15.out⟩)
            go_wp2_with fail
            go_roundw
            case rel => first
              | exact ⟨k + 1, by omega, by go_num, HRL.out⟩
              | ((repeat apply Exists.intro); exact ⟨⟨k + 1, by omega, by go_num, HRL.out⟩, rfl⟩)
            case measure => simp [intOf]; omega
          | true =>
            have bV : Below w11.heap.size w11 (w11.alloc (.cells #[.int .i64 yt, .int .i64 yh, .slice A11 m11 c11] 98)) := (Below.refl _ _).alloc (Nat.le_refl _) _
            have Y12 := Lib.hid (show Blk (w11.alloc (.cells #[.int .i64 yt, .int .i64 yh, .slice A11 m11 c11] 98)) w11.heap.size 98 [.int .i64 yt, .int .i64 yh, .slice A11 m11 c11] from Blk.top _ rfl rfl)
            have O12 := Lib.hid (O11.out.below bV)
            have K12 := Lib.hid (K11.out.below bV)
            have OW12 := Lib.hid (OW11.out.below bV (Nat.le_refl _))
            have LA12 := Lib.hid (LA11.out.below bV)
            have LW12 := Lib.hid (LW11.out.below bV)
            have hgy : wb.heap.size ≤ w11.heap.size := O11.out.size
            clear bV O11 K11 OW11 LA11 LW11
            generalize (w11.alloc (.cells #[.int .i64 yt, .int .i64 yh, .slice A11 m11 c11] 98)) = w12 at *
            generalize w11.heap.size = gy at *
            have E1 := (H1.out rfl).symm
            subst E1
            have O13 := O12
            have K13 := K12
            have OW13 := OW12
            have LA13 := LA12
            have LW13 := LW12
            have Y13 := Y12
            clear O12 K12 OW12 LA12 LW12 Y12
            go_upto_region 29 with fail
            generalize w12 = w13 at *
            obtain ⟨u0, u1, u2⟩ := blk3 Y13.out
            have ul := Y13.out.lt
            have hcp := OW13.out.cap
            have hI := ints_any A11 _ m11 _ c11 (e) (x.l) (x.l) w13 OW13.out.rd.ri LA13.out.ri (by omega)
            rw [decide_eq_true (rfl : (x.l) = (x.l))] at hI
            have IA13 := Lib.hid (IntsAt.of_ow (base := wb.heap.size) OW13.out)
            clear OW13
            go_upto_region 31 with (first
              | ((go_at_call 36; (with_reducible refine (hI).mono ?_); rintro e w14 ⟨rfl, q14, rfl⟩))
              | fail "no arm")
            go_region
            have bE : Below w13.heap.size w13 (w13.drewN (q14 + 1)) := below_drewN (Below.refl _ _) (q14 + 1)
            have O15 := Lib.hid (O13.out.below bE)
            have K15 := Lib.hid (K13.out.below bE)
            have IA15 := Lib.hid (IA13.out.below bE)
            clear bE
            have HRL := Lib.hid (show RelK wb ga gb p (k + 1) (.pointer (some ⟨g10, 0, none⟩)) (.int .i64 (x.n)) (.slice A11 m11 c11) (w13.drewN (q14 + 1)) from ⟨Dn, k'.s, nS + 1, x.n, x.l, g10, m11, c11, A11, kOf delayH (k'.s) (nS + 1) (x.n) (x.l), x9, rfl, rfl, rfl, IA15.out, I10.out, rfl, by omega, O15.out, K15.out⟩)
            go_wp2_with fail
            go_roundw
            case rel => first
              | exact ⟨k + 1, by omega, by go_num, HRL.out⟩
              | ((repeat apply Exists.intro); exact ⟨⟨k + 1, by omega, by go_num, HRL.out⟩, rfl⟩)
            case measure => simp [intOf]; omega
      · have HKS := Lib.hid i2
        have HM := Lib.hid i3
        clear HSV i2 i3 hz
        rcases HM.out with ⟨hz, hi⟩ | ⟨hz, hi⟩
        · subst hz
          have I6 := Lib.hid hi
          clear HM hi
          go_upto_region 21 with fail
          have bD : Below w6.heap.size w6 w6 := (by (repeat' (first | (with_reducible exact Below.refl _ _) | (with_reducible assumption) | (with_reducible refine Below.drew ?_) | (with_reducible refine below_drewN ?_ _) | (with_reducible refine Below.alloc ?_ ?_ _) | (with_reducible refine Below.setCell ?_ ?_ _) | omega | (simp; done) | (simp; omega))))
          have O7 := Lib.hid (O6.out.below bD)
          have K7 := Lib.hid (K6.out.below bD)
          have L7 := Lib.hid (L6.out.below bD)
          have XL7 := Lib.hid (XL6.out.below bD)
          have X7 := Lib.hid (X6.out.below bD lx6)
          have t0 : (w6).cell? ⟨wr.heap.size, 0, none⟩ = some (.int .i64 x.kind) := X7.out.cell 0
          have t3 : (w6).cell? ⟨wr.heap.size, 3, none⟩ = some (.slice B m d) := X7.out.cell 3
          have lx7 := X7.out.lt
          clear bD O6 K6 L6 XL6 X6 z0 z1 z2 z3 lx6
          generalize w6 = w7 at *
          by_cases hk3 : x.kind < 3
          · go_wp2_with fail
            go_roundw
            case rel => first
              | exact ⟨k + 1, by omega, by go_num, D', s, nS, last, L, gk, nL, cL, AL, k', xp, rfl, rfl, rfl, L7.out, I6.out, HKS.out, by omega, O7.out, K7.out⟩
              | ((repeat apply Exists.intro); exact ⟨⟨k + 1, by omega, by go_num, D', s, nS, last, L, gk, nL, cL, AL, k', xp, rfl, rfl, rfl, L7.out, I6.out, HKS.out, by omega, O7.out, K7.out⟩, rfl⟩)
            case measure => simp [intOf]; omega
          · have I7 := Lib.hid (I6.out.crash x.b)
            have hcr := s_crash O7.out.sd O7.out.size B m d x.b (HXB.out _ O7.out.bel) HXO.out (by unfold maxLen; omega)
            generalize crashV D' x.b = Dc at *
            go_upto_region 27 with (first
              | ((go_at_call 14; (with_reducible refine (hcr).mono ?_); rintro e w8 ⟨rfl, h8, st8⟩); have O8 := Lib.hid (O7.out.step st8 h8); have LA8 := Lib.hid (L7.out.step O7.out.sd st8 (by decide)); have LW8 := Lib.hid (L7.out.step O7.out.sd st8 (by decide)); clear h8 st8)
              | ((go_at_call 41; (with_reducible refine (delay_any _).mono ?_); rintro e w9 ⟨x9, rfl, px9, bx9⟩); have O9 := Lib.hid (O8.out.below bx9); have P9 := Lib.hid (px9 wb.heap.size); have LA9 := Lib.hid (LA8.out.below bx9); have LW9 := Lib.hid (LW8.out.below bx9); clear px9 bx9)
              | ((go_at_call 40; (with_reducible refine (kopen_of O9.out I7.out P9.out).mono ?_); rintro e w10 ⟨g10, Dn, rfl, hg10, k10, o10, i10, t10⟩); have O10 := Lib.hid o10; have K10 := Lib.hid k10; have I10 := Lib.hid i10; have LA10 := Lib.hid (LA9.out.step O9.out.sd t10 (by decide)); have LW10 := Lib.hid (LW9.out.step O9.out.sd t10 (by decide)); have hgg : wb.heap.size ≤ g10 := (by have := O9.out.size; omega); clear k10 o10 i10 t10)
              | ((go_at_call 43; (with_reducible refine (klast_of K10.out I10.out).mono ?_); rintro e w11 ⟨A11, m11, c11, yt, yh, hb, rfl, ow11, hb1, hb0, b11⟩); have O11 := Lib.hid (O10.out.below b11); have K11 := Lib.hid (K10.out.below b11); have OW11 := Lib.hid ow11; have LA11 := Lib.hid (LA10.out.below b11); have LW11 := Lib.hid (LW10.out.below b11); have H1 := Lib.hid hb1; have H0 := Lib.hid hb0; clear ow11 hb1 hb0 b11)
              | fail "no arm")
            clear hcr
            cases hb with
            | false =>
              have bV : Below w11.heap.size w11 (w11.alloc (.cells #[.int .i64 yt, .int .i64 yh, .slice A11 m11 c11] 98)) := (Below.refl _ _).alloc (Nat.le_refl _) _
              have Y12 := Lib.hid (show Blk (w11.alloc (.cells #[.int .i64 yt, .int .i64 yh, .slice A11 m11 c11] 98)) w11.heap.size 98 [.int .i64 yt, .int .i64 yh, .slice A11 m11 c11] from Blk.top _ rfl rfl)
              have O12 := Lib.hid (O11.out.below bV)
              have K12 := Lib.hid (K11.out.below bV)
              have OW12 := Lib.hid (OW11.out.below bV (Nat.le_refl _))
              have LA12 := Lib.hid (LA11.out.below bV)
              have LW12 := Lib.hid (LW11.out.below bV)
              have hgy : wb.heap.size ≤ w11.heap.size := O11.out.size
              clear bV O11 K11 OW11 LA11 LW11
              generalize (w11.alloc (.cells #[.int .i64 yt, .int .i64 yh, .slice A11 m11 c11] 98)) = w12 at *
              generalize w11.heap.size = gy at *
              have E1 := Lib.hid (H0.out rfl)
              obtain ⟨s0, s1, s2⟩ := blk3 Y12.out
              have sf := Y12.out.frozen 0
              have sl := Y12.out.lt
              obtain ⟨st13, o13⟩ := snap_set (i := 0) (u := .int .i64 (-1)) (k := noKeep) (xp := xp) O12.out Y12.out hgy
              have O13 := Lib.hid o13
              have K13 := Lib.hid (K12.out.step O12.out.sd st13 (by decide) (by decide) (by decide) (by decide) (by decide) (by decide))
              have OW13 := Lib.hid (OW12.out.setFar Y12.out (by decide) 0 (.int .i64 (-1)))
              have LA13 := Lib.hid (LA12.out.step O12.out.sd st13 (by decide))
              have LW13 := Lib.hid (LW12.out.step O12.out.sd st13 (by decide))
              have Y13 := Lib.hid (show Blk (w12.setCell ⟨gy, 0, none⟩ (.int .i64 (-1))) gy 98 [.int .i64 (last), .int .i64 yh, .slice A11 m11 c11] from by rw [E1.out]; exact Y12.out.set_ 0 (.int .i64 (-1)))
              clear o13 st13
              go_upto_region 29 with fail
              clear s0 s1 s2 sf sl O12 K12 OW12 LA12 LW12 Y12
              generalize (w12.setCell ⟨gy, 0, none⟩ (.int .i64 (-1))) = w13 at *
              obtain ⟨u0, u1, u2⟩ := blk3 Y13.out
              have ul := Y13.out.lt
              have hcp := OW13.out.cap
              have hI := ints_any A11 _ m11 _ c11 (cL) (L) (L) w13 OW13.out.rd.ri LA13.out.ri (by omega)
              rw [decide_eq_true (rfl : (L) = (L))] at hI
              have IA13 := Lib.hid (IntsAt.of_ow (base := wb.heap.size) OW13.out)
              clear OW13
              go_upto_region 31 with (first
                | ((go_at_call 36; (with_reducible refine (hI).mono ?_); rintro e w14 ⟨rfl, q14, rfl⟩))
                | fail "no arm")
              go_region
              have bE : Below w13.heap.size w13 (w13.drewN (q14 + 1)) := below_drewN (Below.refl _ _) (q14 + 1)
              have O15 := Lib.hid (O13.out.below bE)
              have K15 := Lib.hid (K13.out.below bE)
              have IA15 := Lib.hid (IA13.out.below bE)
              clear bE
              have HRL := Lib.hid (show RelK wb ga gb p (k + 1) (.pointer (some ⟨g10, 0, none⟩)) (.int .i64 (last)) (.slice A11 m11 c11) (w13.drewN (q14 + 1)) from ⟨Dn, s, nS, last, L, g10, m11, c11, A11, kOf delayH (s) (nS) (last) (L), x9, rfl, rfl, rfl, IA15.out, I10.out, rfl, by omega, O15.out, K15.out⟩)
              go_wp2_with fail
              go_roundw
              case rel => first
                | exact ⟨k + 1, by omega, by go_num, HRL.out⟩
                | ((repeat apply Exists.intro); exact ⟨⟨k + 1, by omega, by go_num, HRL.out⟩, rfl⟩)
              case measure => simp [intOf]; omega
            | true =>
              have bV : Below w11.heap.size w11 (w11.alloc (.cells #[.int .i64 yt, .int .i64 yh, .slice A11 m11 c11] 98)) := (Below.refl _ _).alloc (Nat.le_refl _) _
              have Y12 := Lib.hid (show Blk (w11.alloc (.cells #[.int .i64 yt, .int .i64 yh, .slice A11 m11 c11] 98)) w11.heap.size 98 [.int .i64 yt, .int .i64 yh, .slice A11 m11 c11] from Blk.top _ rfl rfl)
              have O12 := Lib.hid (O11.out.below bV)
              have K12 := Lib.hid (K11.out.below bV)
              have OW12 := Lib.hid (OW11.out.below bV (Nat.le_refl _))
              have LA12 := Lib.hid (LA11.out.below bV)
              have LW12 := Lib.hid (LW11.out.below bV)
              have hgy : wb.heap.size ≤ w11.heap.size := O11.out.size
              clear bV O11 K11 OW11 LA11 LW11
              generalize (w11.alloc (.cells #[.int .i64 yt, .int .i64 yh, .slice A11 m11 c11] 98)) = w12 at *
              generalize w11.heap.size = gy at *
              have E1 := (H1.out rfl).symm
              subst E1
              have O13 := O12
              have K13 := K12
              have OW13 := OW12
              have LA13 := LA12
              have LW13 := LW12
              have Y13 := Y12
              clear O12 K12 OW12 LA12 LW12 Y12
              go_upto_region 29 with fail
              generalize w12 = w13 at *
              obtain ⟨u0, u1, u2⟩ := blk3 Y13.out
              have ul := Y13.out.lt
              have hcp := OW13.out.cap
              have hI := ints_any A11 _ m11 _ c11 (cL) (L) (L) w13 OW13.out.rd.ri LA13.out.ri (by omega)
              rw [decide_eq_true (rfl : (L) = (L))] at hI
              have IA13 := Lib.hid (IntsAt.of_ow (base := wb.heap.size) OW13.out)
              clear OW13
              go_upto_region 31 with (first
                | ((go_at_call 36; (with_reducible refine (hI).mono ?_); rintro e w14 ⟨rfl, q14, rfl⟩))
                | fail "no arm")
              go_region
              have bE : Below w13.heap.size w13 (w13.drewN (q14 + 1)) := below_drewN (Below.refl _ _) (q14 + 1)
              have O15 := Lib.hid (O13.out.below bE)
              have K15 := Lib.hid (K13.out.below bE)
              have IA15 := Lib.hid (IA13.out.below bE)
              clear bE
              have HRL := Lib.hid (show RelK wb ga gb p (k + 1) (.pointer (some ⟨g10, 0, none⟩)) (.int .i64 (last)) (.slice A11 m11 c11) (w13.drewN (q14 + 1)) from ⟨Dn, s, nS, last, L, g10, m11, c11, A11, kOf delayH (s) (nS) (last) (L), x9, rfl, rfl, rfl, IA15.out, I10.out, rfl, by omega, O15.out, K15.out⟩)
              go_wp2_with fail
              go_roundw
              case rel => first
                | exact ⟨k + 1, by omega, by go_num, HRL.out⟩
                | ((repeat apply Exists.intro); exact ⟨⟨k + 1, by omega, by go_num, HRL.out⟩, rfl⟩)
              case measure => simp [intOf]; omega
        · subst hz
          have hi2 := hi x.b
          clear HM hi
          go_upto_region 18 with fail
          go_region
          go_upto_region 21 with fail
          have bD : Below w6.heap.size w6 w6.drew := (by (repeat' (first | (with_reducible exact Below.refl _ _) | (with_reducible assumption) | (with_reducible refine Below.drew ?_) | (with_reducible refine below_drewN ?_ _) | (with_reducible refine Below.alloc ?_ ?_ _) | (with_reducible refine Below.setCell ?_ ?_ _) | omega | (simp; done) | (simp; omega))))
          have O7 := Lib.hid (O6.out.below bD)
          have K7 := Lib.hid (K6.out.below bD)
          have L7 := Lib.hid (L6.out.below bD)
          have XL7 := Lib.hid (XL6.out.below bD)
          have X7 := Lib.hid (X6.out.below bD lx6)
          have t0 : (w6.drew).cell? ⟨wr.heap.size, 0, none⟩ = some (.int .i64 x.kind) := X7.out.cell 0
          have t3 : (w6.drew).cell? ⟨wr.heap.size, 3, none⟩ = some (.slice B m d) := X7.out.cell 3
          have lx7 := X7.out.lt
          clear bD O6 K6 L6 XL6 X6 z0 z1 z2 z3 lx6
          generalize w6.drew = w7 at *
          rcases hi2 with hi3 | ⟨s', hi3⟩
          · have I7 := Lib.hid hi3
            clear hi3
            have hcr := s_crash O7.out.sd O7.out.size B m d x.b (HXB.out _ O7.out.bel) HXO.out (by unfold maxLen; omega)
            generalize crashV D' x.b = Dc at *
            go_upto_region 27 with (first
              | ((go_at_call 14; (with_reducible refine (hcr).mono ?_); rintro e w8 ⟨rfl, h8, st8⟩); have O8 := Lib.hid (O7.out.step st8 h8); have LA8 := Lib.hid (L7.out.step O7.out.sd st8 (by decide)); have LW8 := Lib.hid (XL7.out.step O7.out.sd st8 (by decide)); clear h8 st8)
              | ((go_at_call 41; (with_reducible refine (delay_any _).mono ?_); rintro e w9 ⟨x9, rfl, px9, bx9⟩); have O9 := Lib.hid (O8.out.below bx9); have P9 := Lib.hid (px9 wb.heap.size); have LA9 := Lib.hid (LA8.out.below bx9); have LW9 := Lib.hid (LW8.out.below bx9); clear px9 bx9)
              | ((go_at_call 40; (with_reducible refine (kopen_of O9.out I7.out P9.out).mono ?_); rintro e w10 ⟨g10, Dn, rfl, hg10, k10, o10, i10, t10⟩); have O10 := Lib.hid o10; have K10 := Lib.hid k10; have I10 := Lib.hid i10; have LA10 := Lib.hid (LA9.out.step O9.out.sd t10 (by decide)); have LW10 := Lib.hid (LW9.out.step O9.out.sd t10 (by decide)); have hgg : wb.heap.size ≤ g10 := (by have := O9.out.size; omega); clear k10 o10 i10 t10)
              | ((go_at_call 43; (with_reducible refine (klast_of K10.out I10.out).mono ?_); rintro e w11 ⟨A11, m11, c11, yt, yh, hb, rfl, ow11, hb1, hb0, b11⟩); have O11 := Lib.hid (O10.out.below b11); have K11 := Lib.hid (K10.out.below b11); have OW11 := Lib.hid ow11; have LA11 := Lib.hid (LA10.out.below b11); have LW11 := Lib.hid (LW10.out.below b11); have H1 := Lib.hid hb1; have H0 := Lib.hid hb0; clear ow11 hb1 hb0 b11)
              | fail "no arm")
            clear hcr
            cases hb with
            | false =>
              have bV : Below w11.heap.size w11 (w11.alloc (.cells #[.int .i64 yt, .int .i64 yh, .slice A11 m11 c11] 98)) := (Below.refl _ _).alloc (Nat.le_refl _) _
              have Y12 := Lib.hid (show Blk (w11.alloc (.cells #[.int .i64 yt, .int .i64 yh, .slice A11 m11 c11] 98)) w11.heap.size 98 [.int .i64 yt, .int .i64 yh, .slice A11 m11 c11] from Blk.top _ rfl rfl)
              have O12 := Lib.hid (O11.out.below bV)
              have K12 := Lib.hid (K11.out.below bV)
              have OW12 := Lib.hid (OW11.out.below bV (Nat.le_refl _))
              have LA12 := Lib.hid (LA11.out.below bV)
              have LW12 := Lib.hid (LW11.out.below bV)
              have hgy : wb.heap.size ≤ w11.heap.size := O11.out.size
              clear bV O11 K11 OW11 LA11 LW11
              generalize (w11.alloc (.cells #[.int .i64 yt, .int .i64 yh, .slice A11 m11 c11] 98)) = w12 at *
              generalize w11.heap.size = gy at *
              have E1 := Lib.hid (H0.out rfl)
              obtain ⟨s0, s1, s2⟩ := blk3 Y12.out
              have sf := Y12.out.frozen 0
              have sl := Y12.out.lt
              obtain ⟨st13, o13⟩ := snap_set (i := 0) (u := .int .i64 (-1)) (k := noKeep) (xp := xp) O12.out Y12.out hgy
              have O13 := Lib.hid o13
              have K13 := Lib.hid (K12.out.step O12.out.sd st13 (by decide) (by decide) (by decide) (by decide) (by decide) (by decide))
              have OW13 := Lib.hid (OW12.out.setFar Y12.out (by decide) 0 (.int .i64 (-1)))
              have LA13 := Lib.hid (LA12.out.step O12.out.sd st13 (by decide))
              have LW13 := Lib.hid (LW12.out.step O12.out.sd st13 (by decide))
              have Y13 := Lib.hid (show Blk (w12.setCell ⟨gy, 0, none⟩ (.int .i64 (-1))) gy 98 [.int .i64 (last), .int .i64 yh, .slice A11 m11 c11] from by rw [E1.out]; exact Y12.out.set_ 0 (.int .i64 (-1)))
              clear o13 st13
              go_upto_region 29 with fail
              clear s0 s1 s2 sf sl O12 K12 OW12 LA12 LW12 Y12
              generalize (w12.setCell ⟨gy, 0, none⟩ (.int .i64 (-1))) = w13 at *
              obtain ⟨u0, u1, u2⟩ := blk3 Y13.out
              have ul := Y13.out.lt
              have hcp := OW13.out.cap
              have hI := ints_any A11 _ m11 _ c11 (cL) (L) (L) w13 OW13.out.rd.ri LA13.out.ri (by omega)
              rw [decide_eq_true (rfl : (L) = (L))] at hI
              have IA13 := Lib.hid (IntsAt.of_ow (base := wb.heap.size) OW13.out)
              clear OW13
              go_upto_region 31 with (first
                | ((go_at_call 36; (with_reducible refine (hI).mono ?_); rintro e w14 ⟨rfl, q14, rfl⟩))
                | fail "no arm")
              go_region
              have bE : Below w13.heap.size w13 (w13.drewN (q14 + 1)) := below_drewN (Below.refl _ _) (q14 + 1)
              have O15 := Lib.hid (O13.out.below bE)
              have K15 := Lib.hid (K13.out.below bE)
              have IA15 := Lib.hid (IA13.out.below bE)
              clear bE
              have HRL := Lib.hid (show RelK wb ga gb p (k + 1) (.pointer (some ⟨g10, 0, none⟩)) (.int .i64 (last)) (.slice A11 m11 c11) (w13.drewN (q14 + 1)) from ⟨Dn, s, nS, last, L, g10, m11, c11, A11, kOf delayH (s) (nS) (last) (L), x9, rfl, rfl, rfl, IA15.out, I10.out, rfl, by omega, O15.out, K15.out⟩)
              go_wp2_with fail
              go_roundw
              case rel => first
                | exact ⟨k + 1, by omega, by go_num, HRL.out⟩
                | ((repeat apply Exists.intro); exact ⟨⟨k + 1, by omega, by go_num, HRL.out⟩, rfl⟩)
              case measure => simp [intOf]; omega
            | true =>
              have bV : Below w11.heap.size w11 (w11.alloc (.cells #[.int .i64 yt, .int .i64 yh, .slice A11 m11 c11] 98)) := (Below.refl _ _).alloc (Nat.le_refl _) _
              have Y12 := Lib.hid (show Blk (w11.alloc (.cells #[.int .i64 yt, .int .i64 yh, .slice A11 m11 c11] 98)) w11.heap.size 98 [.int .i64 yt, .int .i64 yh, .slice A11 m11 c11] from Blk.top _ rfl rfl)
              have O12 := Lib.hid (O11.out.below bV)
              have K12 := Lib.hid (K11.out.below bV)
              have OW12 := Lib.hid (OW11.out.below bV (Nat.le_refl _))
              have LA12 := Lib.hid (LA11.out.below bV)
              have LW12 := Lib.hid (LW11.out.below bV)
              have hgy : wb.heap.size ≤ w11.heap.size := O11.out.size
              clear bV O11 K11 OW11 LA11 LW11
              generalize (w11.alloc (.cells #[.int .i64 yt, .int .i64 yh, .slice A11 m11 c11] 98)) = w12 at *
              generalize w11.heap.size = gy at *
              have E1 := (H1.out rfl).symm
              subst E1
              have O13 := O12
              have K13 := K12
              have OW13 := OW12
              have LA13 := LA12
              have LW13 := LW12
              have Y13 := Y12
              clear O12 K12 OW12 LA12 LW12 Y12
              go_upto_region 29 with fail
              generalize w12 = w13 at *
              obtain ⟨u0, u1, u2⟩ := blk3 Y13.out
              have ul := Y13.out.lt
              have hcp := OW13.out.cap
              have hI := ints_any A11 _ m11 _ c11 (cL) (L) (L) w13 OW13.out.rd.ri LA13.out.ri (by omega)
              rw [decide_eq_true (rfl : (L) = (L))] at hI
              have IA13 := Lib.hid (IntsAt.of_ow (base := wb.heap.size) OW13.out)
              clear OW13
              go_upto_region 31 with (first
                | ((go_at_call 36; (with_reducible refine (hI).mono ?_); rintro e w14 ⟨rfl, q14, rfl⟩))
                | fail "no arm")
              go_region
              have bE : Below w13.heap.size w13 (w13.drewN (q14 + 1)) := below_drewN (Below.refl _ _) (q14 + 1)
              have O15 := Lib.hid (O13.out.below bE)
              have K15 := Lib.hid (K13.out.below bE)
              have IA15 := Lib.hid (IA13.out.below bE)
              clear bE
              have HRL := Lib.hid (show RelK wb ga gb p (k + 1) (.pointer (some ⟨g10, 0, none⟩)) (.int .i64 (last)) (.slice A11 m11 c11) (w13.drewN (q14 + 1)) from ⟨Dn, s, nS, last, L, g10, m11, c11, A11, kOf delayH (s) (nS) (last) (L), x9, rfl, rfl, rfl, IA15.out, I10.out, rfl, by omega, O15.out, K15.out⟩)
              go_wp2_with fail
              go_roundw
              case rel => first
                | exact ⟨k + 1, by omega, by go_num, HRL.out⟩
                | ((repeat apply Exists.intro); exact ⟨⟨k + 1, by omega, by go_num, HRL.out⟩, rfl⟩)
              case measure => simp [intOf]; omega
          · have I7 := Lib.hid hi3
            clear hi3
            have hcr := s_crash O7.out.sd O7.out.size B m d x.b (HXB.out _ O7.out.bel) HXO.out (by unfold maxLen; omega)
            generalize crashV D' x.b = Dc at *
            go_upto_region 27 with (first
              | ((go_at_call 14; (with_reducible refine (hcr).mono ?_); rintro e w8 ⟨rfl, h8, st8⟩); have O8 := Lib.hid (O7.out.step st8 h8); have LA8 := Lib.hid (L7.out.step O7.out.sd st8 (by decide)); have LW8 := Lib.hid (XL7.out.step O7.out.sd st8 (by decide)); clear h8 st8)
              | ((go_at_call 41; (with_reducible refine (delay_any _).mono ?_); rintro e w9 ⟨x9, rfl, px9, bx9⟩); have O9 := Lib.hid (O8.out.below bx9); have P9 := Lib.hid (px9 wb.heap.size); have LA9 := Lib.hid (LA8.out.below bx9); have LW9 := Lib.hid (LW8.out.below bx9); clear px9 bx9)
              | ((go_at_call 40; (with_reducible refine (kopen_of O9.out I7.out P9.out).mono ?_); rintro e w10 ⟨g10, Dn, rfl, hg10, k10, o10, i10, t10⟩); have O10 := Lib.hid o10; have K10 := Lib.hid k10; have I10 := Lib.hid i10; have LA10 := Lib.hid (LA9.out.step O9.out.sd t10 (by decide)); have LW10 := Lib.hid (LW9.out.step O9.out.sd t10 (by decide)); have hgg : wb.heap.size ≤ g10 := (by have := O9.out.size; omega); clear k10 o10 i10 t10)
              | ((go_at_call 43; (with_reducible refine (klast_of K10.out I10.out).mono ?_); rintro e w11 ⟨A11, m11, c11, yt, yh, hb, rfl, ow11, hb1, hb0, b11⟩); have O11 := Lib.hid (O10.out.below b11); have K11 := Lib.hid (K10.out.below b11); have OW11 := Lib.hid ow11; have LA11 := Lib.hid (LA10.out.below b11); have LW11 := Lib.hid (LW10.out.below b11); have H1 := Lib.hid hb1; have H0 := Lib.hid hb0; clear ow11 hb1 hb0 b11)
              | fail "no arm")
            clear hcr
            cases hb with
            | false =>
              have bV : Below w11.heap.size w11 (w11.alloc (.cells #[.int .i64 yt, .int .i64 yh, .slice A11 m11 c11] 98)) := (Below.refl _ _).alloc (Nat.le_refl _) _
              have Y12 := Lib.hid (show Blk (w11.alloc (.cells #[.int .i64 yt, .int .i64 yh, .slice A11 m11 c11] 98)) w11.heap.size 98 [.int .i64 yt, .int .i64 yh, .slice A11 m11 c11] from Blk.top _ rfl rfl)
              have O12 := Lib.hid (O11.out.below bV)
              have K12 := Lib.hid (K11.out.below bV)
              have OW12 := Lib.hid (OW11.out.below bV (Nat.le_refl _))
              have LA12 := Lib.hid (LA11.out.below bV)
              have LW12 := Lib.hid (LW11.out.below bV)
              have hgy : wb.heap.size ≤ w11.heap.size := O11.out.size
              clear bV O11 K11 OW11 LA11 LW11
              generalize (w11.alloc (.cells #[.int .i64 yt, .int .i64 yh, .slice A11 m11 c11] 98)) = w12 at *
              generalize w11.heap.size = gy at *
              have E1 := Lib.hid (H0.out rfl)
              obtain ⟨s0, s1, s2⟩ := blk3 Y12.out
              have sf := Y12.out.frozen 0
              have sl := Y12.out.lt
              obtain ⟨st13, o13⟩ := snap_set (i := 0) (u := .int .i64 (-1)) (k := noKeep) (xp := xp) O12.out Y12.out hgy
              have O13 := Lib.hid o13
              have K13 := Lib.hid (K12.out.step O12.out.sd st13 (by decide) (by decide) (by decide) (by decide) (by decide) (by decide))
              have OW13 := Lib.hid (OW12.out.setFar Y12.out (by decide) 0 (.int .i64 (-1)))
              have LA13 := Lib.hid (LA12.out.step O12.out.sd st13 (by decide))
              have LW13 := Lib.hid (LW12.out.step O12.out.sd st13 (by decide))
              have Y13 := Lib.hid (show Blk (w12.setCell ⟨gy, 0, none⟩ (.int .i64 (-1))) gy 98 [.int .i64 (x.n), .int .i64 yh, .slice A11 m11 c11] from by rw [E1.out]; exact Y12.out.set_ 0 (.int .i64 (-1)))
              clear o13 st13
              go_upto_region 29 with fail
              clear s0 s1 s2 sf sl O12 K12 OW12 LA12 LW12 Y12
              generalize (w12.setCell ⟨gy, 0, none⟩ (.int .i64 (-1))) = w13 at *
              obtain ⟨u0, u1, u2⟩ := blk3 Y13.out
              have ul := Y13.out.lt
              have hcp := OW13.out.cap
              have hI1 := ints_any A11 AL m11 nL c11 cL x.l L w13 OW13.out.rd.ri LA13.out.ri (by omega)
              have hI2 := fun (W : World) (h1 : RI W A11 m11 x.l) (h2 : RI W C q x.l) => ints_any A11 C m11 q c11 e x.l x.l W h1 h2 (by omega)
              rw [decide_eq_true (rfl : x.l = x.l)] at hI2
              have IA13 := Lib.hid (IntsAt.of_ow (base := wb.heap.size) OW13.out)
              by_cases hne : x.n = last
              · have hnb : (x.n != last) = false := by rw [hne]; simp
                have HNE := Lib.hid hne
                clear hne
                by_cases hll : x.l = L
                · rw [decide_eq_true hll] at hI1
                  clear hll
                  go_upto_region 31 with (first
                    | ((go_at_call 36; (with_reducible refine (hI1).mono ?_); rintro e w14 ⟨rfl, q14, rfl⟩))
                    | fail "no arm")
                  go_region
                  have bE : Below w13.heap.size w13 (w13.drewN (q14 + 1)) := below_drewN (Below.refl _ _) (q14 + 1)
                  have HRL := Lib.hid (show RelK wb ga gb p (k + 1) (.pointer (some ⟨g10, 0, none⟩)) (.int .i64 x.n) (.slice A11 m11 c11) (w13.drewN (q14 + 1)) from ⟨Dn, s', nS + 1, x.n, x.l, g10, m11, c11, A11, kOf delayH s' (nS + 1) x.n x.l, x9, rfl, rfl, rfl, IA13.out.below bE, I10.out, rfl, by omega, O13.out.below bE, K13.out.below bE⟩)
                  clear bE
                  go_wp2_with fail
                  go_roundw
                  case rel => first
                    | exact ⟨k + 1, by omega, by go_num, HRL.out⟩
                    | ((repeat apply Exists.intro); exact ⟨⟨k + 1, by omega, by go_num, HRL.out⟩, rfl⟩)
                  case measure => simp [intOf]; omega
                · rw [decide_eq_false hll] at hI1
                  clear hll
                  go_upto_region 31 with (first
                    | ((go_at_call 36; (with_reducible refine (hI1).mono ?_); rintro e w14 ⟨rfl, q14, rfl⟩))
                    | ((go_at_call 36; (with_reducible refine (hI2 _ (OW13.out.below (b := w13.heap.size) (by (repeat' (first | (with_reducible exact Below.refl _ _) | (with_reducible assumption) | (with_reducible refine Below.drew ?_) | (with_reducible refine below_drewN ?_ _) | (with_reducible refine Below.alloc ?_ ?_ _) | (with_reducible refine Below.setCell ?_ ?_ _) | omega | (simp; done) | (simp; omega)))) (Nat.le_refl _)).rd.ri (LW13.out.below (by (repeat' (first | (with_reducible exact Below.refl _ _) | (with_reducible assumption) | (with_reducible refine Below.drew ?_) | (with_reducible refine below_drewN ?_ _) | (with_reducible refine Below.alloc ?_ ?_ _) | (with_reducible refine Below.setCell ?_ ?_ _) | omega | (simp; done) | (simp; omega))))).ri).mono ?_); rintro e w15 ⟨rfl, q15, rfl⟩))
                    | fail "no arm")
                  go_region
                  have bE : Below w13.heap.size w13 (w13.drewN (q14 + q15 + 1)) := below_drewN (Below.refl _ _) (q14 + q15 + 1)
                  have HRL := Lib.hid (show RelK wb ga gb p (k + 1) (.pointer (some ⟨g10, 0, none⟩)) (.int .i64 x.n) (.slice A11 m11 c11) (w13.drewN (q14 + q15 + 1)) from ⟨Dn, s', nS + 1, x.n, x.l, g10, m11, c11, A11, kOf delayH s' (nS + 1) x.n x.l, x9, rfl, rfl, rfl, IA13.out.below bE, I10.out, rfl, by omega, O13.out.below bE, K13.out.below bE⟩)
                  clear bE
                  go_wp2_with fail
                  go_roundw
                  case rel => first
                    | exact ⟨k + 1, by omega, by go_num, HRL.out⟩
                    | ((repeat apply Exists.intro); exact ⟨⟨k + 1, by omega, by go_num, HRL.out⟩, rfl⟩)
                  case measure => simp [intOf]; omega
              · have hnb : (x.n != last) = true := by rw [bne_iff_ne]; exact hne
                clear hne
                go_upto_region 31 with (first
                  | ((go_at_call 36; (with_reducible refine (hI2 _ OW13.out.rd.ri LW13.out.ri).mono ?_); rintro e w15 ⟨rfl, q15, rfl⟩))
                  | fail "no arm")
                go_region
                have bE : Below w13.heap.size w13 (w13.drewN (q15 + 1)) := below_drewN (Below.refl _ _) (q15 + 1)
                have HRL := Lib.hid (show RelK wb ga gb p (k + 1) (.pointer (some ⟨g10, 0, none⟩)) (.int .i64 x.n) (.slice A11 m11 c11) (w13.drewN (q15 + 1)) from ⟨Dn, s', nS + 1, x.n, x.l, g10, m11, c11, A11, kOf delayH s' (nS + 1) x.n x.l, x9, rfl, rfl, rfl, IA13.out.below bE, I10.out, rfl, by omega, O13.out.below bE, K13.out.below bE⟩)
                clear bE
                go_wp2_with fail
                go_roundw
                case rel => first
                  | exact ⟨k + 1, by omega, by go_num, HRL.out⟩
                  | ((repeat apply Exists.intro); exact ⟨⟨k + 1, by omega, by go_num, HRL.out⟩, rfl⟩)
                case measure => simp [intOf]; omega
            | true =>
              have bV : Below w11.heap.size w11 (w11.alloc (.cells #[.int .i64 yt, .int .i64 yh, .slice A11 m11 c11] 98)) := (Below.refl _ _).alloc (Nat.le_refl _) _
              have Y12 := Lib.hid (show Blk (w11.alloc (.cells #[.int .i64 yt, .int .i64 yh, .slice A11 m11 c11] 98)) w11.heap.size 98 [.int .i64 yt, .int .i64 yh, .slice A11 m11 c11] from Blk.top _ rfl rfl)
              have O12 := Lib.hid (O11.out.below bV)
              have K12 := Lib.hid (K11.out.below bV)
              have OW12 := Lib.hid (OW11.out.below bV (Nat.le_refl _))
              have LA12 := Lib.hid (LA11.out.below bV)
              have LW12 := Lib.hid (LW11.out.below bV)
              have hgy : wb.heap.size ≤ w11.heap.size := O11.out.size
              clear bV O11 K11 OW11 LA11 LW11
              generalize (w11.alloc (.cells #[.int .i64 yt, .int .i64 yh, .slice A11 m11 c11] 98)) = w12 at *
              generalize w11.heap.size = gy at *
              have E1 := (H1.out rfl).symm
              subst E1
              have O13 := O12
              have K13 := K12
              have OW13 := OW12
              have LA13 := LA12
              have LW13 := LW12
              have Y13 := Y12
              clear O12 K12 OW12 LA12 LW12 Y12
              go_upto_region 29 with fail
              generalize w12 = w13 at *
              obtain ⟨u0, u1, u2⟩ := blk3 Y13.out
              have ul := Y13.out.lt
              have hcp := OW13.out.cap
              have hI1 := ints_any A11 AL m11 nL c11 cL x.l L w13 OW13.out.rd.ri LA13.out.ri (by omega)
              have hI2 := fun (W : World) (h1 : RI W A11 m11 x.l) (h2 : RI W C q x.l) => ints_any A11 C m11 q c11 e x.l x.l W h1 h2 (by omega)
              rw [decide_eq_true (rfl : x.l = x.l)] at hI2
              have IA13 := Lib.hid (IntsAt.of_ow (base := wb.heap.size) OW13.out)
              by_cases hne : x.n = last
              · have hnb : (x.n != last) = false := by rw [hne]; simp
                have HNE := Lib.hid hne
                clear hne
                by_cases hll : x.l = L
                · rw [decide_eq_true hll] at hI1
                  clear hll
                  go_upto_region 31 with (first
                    | ((go_at_call 36; (with_reducible refine (hI1).mono ?_); rintro e w14 ⟨rfl, q14, rfl⟩))
                    | fail "no arm")
                  go_region
                  have bE : Below w13.heap.size w13 (w13.drewN (q14 + 1)) := below_drewN (Below.refl _ _) (q14 + 1)
                  have HRL := Lib.hid (show RelK wb ga gb p (k + 1) (.pointer (some ⟨g10, 0, none⟩)) (.int .i64 x.n) (.slice A11 m11 c11) (w13.drewN (q14 + 1)) from ⟨Dn, s', nS + 1, x.n, x.l, g10, m11, c11, A11, kOf delayH s' (nS + 1) x.n x.l, x9, rfl, rfl, rfl, IA13.out.below bE, I10.out, rfl, by omega, O13.out.below bE, K13.out.below bE⟩)
                  clear bE
                  go_wp2_with fail
                  go_roundw
                  case rel => first
                    | exact ⟨k + 1, by omega, by go_num, HRL.out⟩
                    | ((repeat apply Exists.intro); exact ⟨⟨k + 1, by omega, by go_num, HRL.out⟩, rfl⟩)
                  case measure => simp [intOf]; omega
                · rw [decide_eq_false hll] at hI1
                  clear hll
                  go_upto_region 31 with (first
                    | ((go_at_call 36; (with_reducible refine (hI1).mono ?_); rintro e w14 ⟨rfl, q14, rfl⟩))
                    | ((go_at_call 36; (with_reducible refine (hI2 _ (OW13.out.below (b := w13.heap.size) (by (repeat' (first | (with_reducible exact Below.refl _ _) | (with_reducible assumption) | (with_reducible refine Below.drew ?_) | (with_reducible refine below_drewN ?_ _) | (with_reducible refine Below.alloc ?_ ?_ _) | (with_reducible refine Below.setCell ?_ ?_ _) | omega | (simp; done) | (simp; omega)))) (Nat.le_refl _)).rd.ri (LW13.out.below (by (repeat' (first | (with_reducible exact Below.refl _ _) | (with_reducible assumption) | (with_reducible refine Below.drew ?_) | (with_reducible refine below_drewN ?_ _) | (with_reducible refine Below.alloc ?_ ?_ _) | (with_reducible refine Below.setCell ?_ ?_ _) | omega | (simp; done) | (simp; omega))))).ri).mono ?_); rintro e w15 ⟨rfl, q15, rfl⟩))
                    | fail "no arm")
                  go_region
                  have bE : Below w13.heap.size w13 (w13.drewN (q14 + q15 + 1)) := below_drewN (Below.refl _ _) (q14 + q15 + 1)
                  have HRL := Lib.hid (show RelK wb ga gb p (k + 1) (.pointer (some ⟨g10, 0, none⟩)) (.int .i64 x.n) (.slice A11 m11 c11) (w13.drewN (q14 + q15 + 1)) from ⟨Dn, s', nS + 1, x.n, x.l, g10, m11, c11, A11, kOf delayH s' (nS + 1) x.n x.l, x9, rfl, rfl, rfl, IA13.out.below bE, I10.out, rfl, by omega, O13.out.below bE, K13.out.below bE⟩)
                  clear bE
                  go_wp2_with fail
                  go_roundw
                  case rel => first
                    | exact ⟨k + 1, by omega, by go_num, HRL.out⟩
                    | ((repeat apply Exists.intro); exact ⟨⟨k + 1, by omega, by go_num, HRL.out⟩, rfl⟩)
                  case measure => simp [intOf]; omega
              · have hnb : (x.n != last) = true := by rw [bne_iff_ne]; exact hne
                clear hne
                go_upto_region 31 with (first
                  | ((go_at_call 36; (with_reducible refine (hI2 _ OW13.out.rd.ri LW13.out.ri).mono ?_); rintro e w15 ⟨rfl, q15, rfl⟩))
                  | fail "no arm")
                go_region
                have bE : Below w13.heap.size w13 (w13.drewN (q15 + 1)) := below_drewN (Below.refl _ _) (q15 + 1)
                have HRL := Lib.hid (show RelK wb ga gb p (k + 1) (.pointer (some ⟨g10, 0, none⟩)) (.int .i64 x.n) (.slice A11 m11 c11) (w13.drewN (q15 + 1)) from ⟨Dn, s', nS + 1, x.n, x.l, g10, m11, c11, A11, kOf delayH s' (nS + 1) x.n x.l, x9, rfl, rfl, rfl, IA13.out.below bE, I10.out, rfl, by omega, O13.out.below bE, K13.out.below bE⟩)
                clear bE
                go_wp2_with fail
                go_roundw
                case rel => first
                  | exact ⟨k + 1, by omega, by go_num, HRL.out⟩
                  | ((repeat apply Exists.intro); exact ⟨⟨k + 1, by omega, by go_num, HRL.out⟩, rfl⟩)
                case measure => simp [intOf]; omega
    · have hk9 : k = n := by omega
      subst hk9
      go_wp2
      go_ret
      exact ⟨rfl, HB2.out.trans (HO.out.bel.mono HB2.out.size)⟩
set_option maxRecDepth 100000 in
set_option maxHeartbeats 8000000 in
theorem walk_few (A0 : Option Addr) (n c0 : Nat) (l : List DoW) (w : World) (h1 : DosW w A0 n l) (hn : n ≤ maxLen) (q1 : few37B l = false) :
    Calls Try.prog 7 #[.slice A0 n c0] w fun e w' => e = .returned (.bool true) ∧ Below w.heap.size w w' := by
  have hf1 := fun w h => few37_any A0 n c0 l w h hn
  rw [q1] at hf1
  clear q1
  go_enter Try.func7, Try.ntmps7
  go_wp2_with (first
    | ((go_at_call 37; (with_reducible refine (awake37 _).mono ?_); rintro e w1 ⟨rfl, hb1⟩); have HB1 := Lib.hid hb1; have s1 := hb1.size; have R1 := Lib.hid (h1.below hb1 (Nat.le_refl _)); clear hb1)
    | ((go_at_call 38; (with_reducible refine (hf1 _ R1.out).mono ?_); rintro e w2 ⟨rfl, hb2⟩); have HB2 := Lib.hid (HB1.out.trans (hb2.mono s1)); clear hb2)
    | fail "no arm")
  go_ret
  exact ⟨rfl, HB2.out⟩
theorem walk (w : World) (v0 : Value) (h1 : ∃ A n c l, v0 = .slice A n c ∧ DosW w A n l ∧ n ≤ c ∧ c ≤ maxLen) :
    Calls Try.prog 7 #[v0] w fun e w' => e = .returned (.bool true) ∧ Below w.heap.size w w' := by
  obtain ⟨A0, n, c0, l, rfl, r1, nc1, cm1⟩ := h1
  cases q : few37B l with
  | false => exact walk_few A0 n c0 l w r1 (by omega) q
  | true => exact walk_main A0 n c0 l w r1 q
--FRAME tompionlaw37 KeepLast keepLast walk raw:[]tompionlaw37.Do:args_dos37:.slice‹_›none‹_›0‹_›0
theorem own : ownKnob Try.prog.godebug = none := by kernel_rfl
theorem laidOut : laidOutB Try.prog = true := by kernel_rfl

set_option maxRecDepth 100000 in
theorem lifted (os : Os) (started : os.Started) (H : Type) (enc : TypeId × Value → H) :
    ReturnsInHanded {} Try.checked os 7 .any (Rows.keepLastSpec.pre6 enc Try.prog Try.f7 Rows.keepLastRow.domain false) (Rows.keepLastSpec.post enc Try.prog Try.f7 false true false false) := by
  refine returnsInHanded_of_change (C := Try.checked) own started (by kernel_rfl) Try.func7
    (ChangeSpec.witness6 (enc := enc) (C := Try.checked) false ⟨#[], #[.slice none 0 0], []⟩ 8 (by kernel_rfl) (by kernel_rfl) (by kernel_rfl) (by kernel_rfl)) ?_
  intro W base args ds gs before hval0 hW hcnd _
  have hval : ∀ (j : Nat) t v, Try.f7.params[j]? = some t → args[j]? = some v → Value.okWide Try.prog W .any base t v := hval0
  have hW' := hW
  obtain ⟨p, q, hA0, hV, rfl, hfz, hnd⟩ := hW
  have hA : DataW.TrodAll enc Try.prog W 0 (fun _ => true) true Try.f7.params.toList args.toList ds p := hA0
  rw [Try.params7] at hA hval
  obtain ⟨v0, vs0, d0, ds0, p0, q0, hargs, rfl, rfl, h0, rr0⟩ := trodAll_cons hA
  obtain ⟨rfl, rfl, rfl⟩ := trodAll_nil rr0
  obtain rfl : args = #[v0] := by cases args; simp_all
  obtain ⟨rfl, rfl⟩ := trodVars_none hV
  have k0 := h0
  have lt0 : ∀ x ∈ p0, x.block < W.heap.size := by obtain ⟨m, hm⟩ := k0; exact DataW.trod_lt m _ _ _ hm
  have x0 := args_dos37 (hval 0 84 v0 rfl rfl) h0
  clear hA0 hval0
  refine (walk W v0 x0).mono fun e W' ⟨he, bel⟩ => ?_
  subst he
  exact ⟨_, rfl, _, _, _, [], _, [], hW', trodAll_mk1 (shut_bool Try.underlying4 _), (trodAll_cons_mk (Below.trod laidOut (by kernel_rfl) (of_decide_eq_true (by kernel_rfl)) k0 bel lt0) trodAll_mk0), rfl, bel.frame _, fun h => by cases h⟩

theorem over : Rows.keepLastRow.holds Try.pinned (OpenSpec.ofChange Rows.keepLastSpec) :=
  OpenClaim.holds_of_wide 7 Try.f7 rfl rfl rfl rfl rfl rfl rfl ⟨rfl, rfl, rfl, rfl, rfl⟩ rfl rfl rfl rfl rfl (by kernel_rfl) Try.func7 (by kernel_rfl)
    (of_decide_eq_true (by kernel_rfl)) (by unfold Func.isWrapper; first | (rw [if_pos (by decide +kernel)]; kernel_rfl) | (rw [if_neg (by decide +kernel)]; exact ⟨rfl, rfl⟩))
    (fun os started H enc _ => lifted os started H enc)

theorem proved : Rows.KeepLastSaid := over
--ENDFRAME
end Go.Proofs.Ytalmdccgpigppaa.keepLast
