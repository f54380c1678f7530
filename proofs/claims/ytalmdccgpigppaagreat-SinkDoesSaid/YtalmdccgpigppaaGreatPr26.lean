/- Parts: RDiskF. -/
import Derived.Test.YtalmdccgpigppaaGreatPr25
namespace Go.Proofs.YtalmdccgpigppaaGreat
open Go.RowKit
set_option linter.unusedVariables false
set_option linter.unusedSimpArgs false
section
variable {F : Nat → Prop} {w w' : World} {base : Nat} {q : RDiskP} {A : Option Addr} {c ck ci : Nat} {D : DiskV}
/-- A sector's row turned to whatever it is to be. -/
theorem KeptAt.setG {gk many n : Nat} {kept kept' L : List UInt8} (h : KeptAt w base gk many ck kept) (hn : n < many) {x : SlV} (hx : Whole x) (hb : BytesAt w base x L) (hL : ∀ j, j < many → secOf kept' (j : Int) = if j = n then L else secOf kept (j : Int)) : KeptAt (w.setCell ⟨gk, n, none⟩ (slV x)) base gk many ck kept' := by
  obtain ⟨hs, ho, hc⟩ := h
  have hF : ∀ g, g = gk → base ≤ g ∧ ∀ cs, ¬ Blk w g 5 cs := fun g e => by
    subst e
    obtain ⟨cs, hb⟩ := ho.blk (g := g) rfl
    exact ⟨(ho.lt g rfl).1, not_u8 hb (by decide)⟩
  have k : Keep (fun g => g = gk) w (w.setCell ⟨gk, n, none⟩ (slV x)) := Keep.one (grown_setCell _)
  refine ⟨hs.set n x, ho.set n x _ rfl, fun j y hy => ?_⟩
  have hjl : j < many := by
    have := (List.getElem?_eq_some_iff.1 hy).1
    rw [List.length_set, ho.1] at this
    exact this
  rw [hL j hjl]
  rw [List.getElem?_set] at hy
  split at hy
  · rename_i e
    subst e
    rw [if_pos (by rw [ho.1]; exact hn)] at hy
    injection hy with hy
    subst hy
    rw [if_pos rfl]
    exact ⟨hx, hb.keepF k hF⟩
  · rename_i e
    rw [if_neg (fun e' => e e'.symm)]
    exact ⟨(hc j y hy).1, (hc j y hy).2.keepF k hF⟩
theorem KeptAt.row {gk many k : Nat} {kept : List UInt8} (h : KeptAt w base gk many ck kept) (hk : k < many) : ∃ x : SlV, w.cell? ⟨gk, k, none⟩ = some (slV x) ∧ Whole x ∧ BytesAt w base x (secOf kept (k : Int)) := by
  obtain ⟨hs, ho, hx⟩ := h
  have hl : k < hs.length := by rw [ho.1]; exact hk
  obtain ⟨b, o, e1, hlt, hc⟩ := ho.rd.2.at_ hk
  injection e1 with e1
  injection e1 with e2 e3 _
  subst e2 e3
  rw [getD_map hs k hl, Nat.zero_add] at hc
  obtain ⟨q1, q2⟩ := hx k _ (List.getElem?_eq_getElem hl)
  exact ⟨hs[k], hc, q1, q2⟩
theorem RB.cut {n k cap : Nat} {B : Option Addr} {l : List UInt8} (h : RB w B n l) (hk : k ≤ n) (hc : n ≤ cap) : RB w (if cap = k then B else B.map (·.add k)) (n - k) (l.drop k) := by
  refine ⟨by rw [List.length_drop, h.1], (h.2.cut hk hc).congr fun i hi => ?_⟩
  unfold byteAt
  rw [List.getD_eq_getElem?_getD, List.getD_eq_getElem?_getD, List.getElem?_drop]
theorem crashK_none {W : List (Nat × List UInt8)} {cs : List UInt8} {s : List UInt8 × List Bool} {k : Nat} (h : byteAt cs k = 0) : crashK W cs s (k + 1) = crashK W cs s k := by
  show (splice (crashK W cs s k).1 ((pieceAt W k).1 * 128) ((pieceAt W k).2.take (min (byteAt cs k) 128)), if 0 < byteAt cs k then _ else _) = _
  rw [h]
  simp [splice]
set_option maxRecDepth 100000 in
set_option maxHeartbeats 20000000 in
theorem rcrash_any (h : RDiskAt w base q A c ck ci D) (hs : base ≤ w.heap.size) (B : Option Addr) (n d : Nat) (cs : List UInt8) (hr : RB w B n cs) (hB : 0 < n → ∀ g, B.map (·.block) = some g → g < base) (hn : n ≤ maxLen) :
    Calls Tryz.prog 33 #[.pointer (some ⟨q.d, 0, none⟩), .slice B n d] w fun e w' => e = .returned (.tuple #[]) ∧ RNext w base q A ck ci (crashV D cs) w' := by
  obtain ⟨c0, c1, c2, c3, c4, c5, c6⟩ := h.cells
  obtain ⟨p1, p2, p3, p4, p5, p6, p7, p8, p9, p10⟩ := h.apart
  have hfew := h.ok.few
  have hm1 := h.ok.many1
  have HCO := Lib.hid (h.cons.crash h.ok cs)
  have HOK := Lib.hid (crashV_ok h.ok cs)
  have HCE := Lib.hid (crashE_all D cs)
  have HCS := Lib.hid (show BytesAt w base ⟨B, n, d⟩ cs from ⟨hr, hn, fun h0 g hg => .inl (hB h0 g hg)⟩)
  have hlc := hr.1
  have HH := Lib.hid h
  unfold maxLen at hn
  clear h hr hB c1 c3 c4 c5 c6
  go_enter Tryz.func33, Tryz.ntmps33
  go_wp2
  go_loopw [4, 5, 6] (fun i _ _ wr => ∃ k : Nat, k ≤ D.waits.length ∧ i = .int .i64 (k : Nat) ∧ Keep (fun g => g = q.gk ∨ g = q.gi) w wr ∧ KeptAt wr base q.gk D.many ck (crashK D.waits cs (D.kept, D.inuse) k).1 ∧ Ow boolV wr base 4 (some ⟨q.gi, 0, none⟩) D.many ci (crashK D.waits cs (D.kept, D.inuse) k).2) (fun i _ _ _ => D.waits.length - (intOf i).toNat)
  case atStart => exact ⟨0, by omega, rfl, Keep.refl _ _, HH.out.kept, HH.out.inu⟩
  case round =>
    obtain ⟨k, hk, rfl, hkp, hke, hin⟩ := hrel
    have hF : ∀ g, (g = q.gk ∨ g = q.gi) → base ≤ g ∧ ∀ cs, ¬ Blk w g 5 cs := fun g e => by
      rcases e with e | e
      · subst e
        obtain ⟨hs, ho, _⟩ := HH.out.kept
        obtain ⟨cs, hb⟩ := ho.blk (g := q.gk) rfl
        exact ⟨(ho.lt _ rfl).1, not_u8 hb (by decide)⟩
      · subst e
        obtain ⟨cs, hb⟩ := HH.out.inu.blk (g := q.gi) rfl
        exact ⟨(HH.out.inu.lt _ rfl).1, not_u8 hb (by decide)⟩
    have hst := HH.out.st.keep hkp (fun e => by rcases e with e | e; exact p1 e; exact p2 e)
    have hwt := HH.out.wts.keepF hkp hF (fun g hg e => by rcases e with e | e; exact p8 (e ▸ hg); exact p9 (e ▸ hg))
    have hcs := HCS.out.keepF hkp hF
    have d0 : wr.cell? ⟨q.d, 0, none⟩ = some (.slice (some ⟨q.gk, 0, none⟩) D.many ck) := hst.cell 0
    have d1 : wr.cell? ⟨q.d, 1, none⟩ = some (.slice (some ⟨q.gi, 0, none⟩) D.many ci) := hst.cell 1
    have d2 : wr.cell? ⟨q.d, 2, none⟩ = some (.slice A D.waits.length c) := hst.cell 2
    have lqd : q.d < wr.heap.size := hst.lt
    have hsw := hkp.size
    have KP := Lib.hid hkp
    have KE := Lib.hid hke
    have IN := Lib.hid hin
    have ST := Lib.hid hst
    have WT := Lib.hid hwt
    have CS := Lib.hid hcs
    by_cases hlt : k < D.waits.length
    · obtain ⟨g, x, hA, hg, e0, e1, hxw, hxb⟩ := hwt.piece hlt
      obtain ⟨pl1, pl2⟩ := pieceAt_ok HH.out.ok hlt
      have hnx : Hid (crashK D.waits cs (D.kept, D.inuse) (k + 1) = (splice (crashK D.waits cs (D.kept, D.inuse) k).1 ((pieceAt D.waits k).1 * 128) ((pieceAt D.waits k).2.take (min (byteAt cs k) 128)), if 0 < byteAt cs k then (crashK D.waits cs (D.kept, D.inuse) k).2.set (pieceAt D.waits k).1 true else (crashK D.waits cs (D.kept, D.inuse) k).2)) := rfl
      have hn0 : byteAt cs k = 0 → Hid (crashK D.waits cs (D.kept, D.inuse) (k + 1) = crashK D.waits cs (D.kept, D.inuse) k) := fun e => crashK_none e
      have hlen := crashK_len HH.out.ok cs k hk
      have PL2 := Lib.hid pl2
      generalize crashK D.waits cs (D.kept, D.inuse) k = S at *
      obtain ⟨S1, S2⟩ := S
      simp only at hlen hnx hke hin KE IN
      generalize (pieceAt D.waits k).1 = m at *
      generalize (pieceAt D.waits k).2 = L at *
      obtain ⟨xa, xn, xc⟩ := x
      have HXW := Lib.hid hxw
      have HXB := Lib.hid hxb
      have HA := Lib.hid hA
      simp only [slV] at e1
      have HL := Lib.hid hlen.1
      have gkn : q.gk ≠ q.gi := p4
      have l1 : q.gk < wr.heap.size := by have := (HH.out.lt q.gk (.inr (.inl rfl))); omega
      have l2 : q.gi < wr.heap.size := by have := (HH.out.lt q.gi (.inr (.inr (.inl rfl)))); omega
      have hgl : g < wr.heap.size := hg
      clear hke hin hst hwt hcs hxw hxb hkp p7 p8 p9 p10 hlen pl2
      subst hA
      have hb256 := byteAt_lt cs k
      go_upto_if 26 with (fail)
      go_cut [6] (fun v wx => v = .int .i64 (byteAt cs k : Nat) ∧ wx = (wr.alloc (.cells #[.int .i64 (m : Nat), .slice xa xn xc] 169)))
      case first =>
        by_cases hkn : k < n
        · obtain ⟨b1, o1, hB1, hb1, hc1⟩ := CS.out.1.at_ hkn
          have HB1 := Lib.hid hB1
          simp only at hB1 hb1 hc1
          subst hB1
          go_wp2
          go_meet
          exact ⟨rfl, rfl⟩
        · have hz : Hid (byteAt cs k = 0) := by
            show _ = _
            unfold byteAt; rw [List.getD_eq_getElem?_getD, List.getElem?_eq_none (by omega)]; rfl
          go_wp2
          go_meet
          exact ⟨by rw [hz.out]; rfl, rfl⟩
      case rest =>
        obtain ⟨rfl, rfl⟩ := hcut
        go_upto_if 33 with (fail)
        go_cut [6] (fun v wx => v = .int .i64 (min (byteAt cs k) 128 : Nat) ∧ wx = (wr.alloc (.cells #[.int .i64 (m : Nat), .slice xa xn xc] 169)))
        case first =>
          by_cases h128 : 128 < byteAt cs k
          · go_wp2
            go_meet
            exact ⟨by rw [show min (byteAt cs k) 128 = 128 by omega]; rfl, rfl⟩
          · go_wp2
            go_meet
            exact ⟨by rw [show min (byteAt cs k) 128 = byteAt cs k by omega], rfl⟩
        case rest =>
          obtain ⟨rfl, rfl⟩ := hcut
          by_cases hz : byteAt cs k = 0
          · have hnn := hn0 hz
            have hm0 : min (byteAt cs k) 128 = 0 := by omega
            rw [hm0]
            clear hn0 hnx hz hm0
            go_wp2
            go_roundw
            case rel =>
              have kA : Keep (fun g => g = q.gk ∨ g = q.gi) w (wr.alloc (.cells #[.int .i64 (m : Nat), .slice xa xn xc] 169)) := KP.out.alloc _
              have bA : Below wr.heap.size wr (wr.alloc (.cells #[.int .i64 (m : Nat), .slice xa xn xc] 169)) := (Below.refl _ _).alloc (Nat.le_refl _) _
              have f1 : KeptAt (wr.alloc (.cells #[.int .i64 (m : Nat), .slice xa xn xc] 169)) base q.gk D.many ck (crashK D.waits cs (D.kept, D.inuse) (k + 1)).1 := by rw [hnn.out]; exact KE.out.below bA
              have f2 : Ow boolV (wr.alloc (.cells #[.int .i64 (m : Nat), .slice xa xn xc] 169)) base 4 (some ⟨q.gi, 0, none⟩) D.many ci (crashK D.waits cs (D.kept, D.inuse) (k + 1)).2 := by rw [hnn.out]; exact IN.out.below bA (Nat.le_refl _)
              first
                | exact ⟨k + 1, by omega, by go_num, kA, f1, f2⟩
                | ((repeat apply Exists.intro); exact ⟨⟨k + 1, by omega, by go_num, kA, f1, f2⟩, rfl⟩)
            case measure => simp [intOf]; omega
          · have hnx2 : Hid (crashK D.waits cs (D.kept, D.inuse) (k + 1) = (splice S1 (m * 128) (L.take (min (byteAt cs k) 128)), S2.set m true)) := by
              show _ = _
              rw [hnx.out, if_pos (by omega)]
            have hc1 : 0 < min (byteAt cs k) 128 := by omega
            have hc2 : min (byteAt cs k) 128 ≤ 128 := by omega
            generalize min (byteAt cs k) 128 = cc at *
            have hcI : (0 : Int) < (cc : Nat) := by omega
            have hcI2 : ((cc : Nat) : Int) ≤ 128 := by omega
            clear hn0 hnx hz hb256
            go_upto_region 10 with fail
            refine code_world (fun W => Blk W wr.heap.size 169 [.int .i64 (m : Nat), .slice xa xn xc] ∧ Keep (fun g => g = q.gk ∨ g = q.gi) w W ∧ KeptAt W base q.gk D.many ck S1 ∧ Ow boolV W base 4 (some ⟨q.gi, 0, none⟩) D.many ci S2 ∧ BytesAt W base ⟨xa, xn, xc⟩ L ∧ Blk W q.d 119 (rdC q D.many ck ci (some ⟨g, 0, none⟩) D.waits.length c D.room D.cut D.off) ∧ base ≤ wr.heap.size) ⟨Blk.top _ rfl rfl, KP.out.alloc _, KE.out.below ((Below.refl _ _).alloc (Nat.le_refl _) _), IN.out.below ((Below.refl _ _).alloc (Nat.le_refl _) _) (Nat.le_refl _), HXB.out.below ((Below.refl _ _).alloc (Nat.le_refl _) _), ST.out.alloc _, by omega⟩ ?_
            intro w1 ⟨hx1, hk1, hke1, hin1, hxb1, hst1, hbx⟩
            generalize wr.heap.size = gx at *
            have e10 : w1.cell? ⟨q.d, 0, none⟩ = some (.slice (some ⟨q.gk, 0, none⟩) D.many ck) := hst1.cell 0
            have e11 : w1.cell? ⟨q.d, 1, none⟩ = some (.slice (some ⟨q.gi, 0, none⟩) D.many ci) := hst1.cell 1
            have x0 : w1.cell? ⟨gx, 0, none⟩ = some (.int .i64 (m : Nat)) := hx1.cell 0
            obtain ⟨⟨ya, yn, yc⟩, hyc, hyw, hyb⟩ := hke1.row pl1
            simp only [slV] at hyc
            obtain ⟨hxn, hxc1, hxc2⟩ := HXW.out
            obtain ⟨hyn, hyc1, hyc2⟩ := hyw
            simp only at hxn hxc1 hxc2 hyn hyc1 hyc2
            subst hxn hyn
            have x1 : w1.cell? ⟨gx, 1, none⟩ = some (.slice xa 128 xc) := hx1.cell 1
            have hcx : cc ≤ xc := by omega
            have hrx : RB w1 xa cc (L.take cc) := hxb1.1.less hc2
            have hry := RB.cut (cap := yc) hyb.1 hc2 (show 128 ≤ yc by omega)
            have HRX := Lib.hid hrx.rd
            have HRY := Lib.hid hry.rd
            have X1 := Lib.hid hx1
            have K1 := Lib.hid hk1
            have KE1 := Lib.hid hke1
            have IN1 := Lib.hid hin1
            have XB1 := Lib.hid hxb1
            have ST1 := Lib.hid hst1
            have lq1 : q.d < w1.heap.size := hst1.lt
            have lx1 : gx < w1.heap.size := hx1.lt
            have lk1 : q.gk < w1.heap.size := by obtain ⟨hs, ho, _⟩ := hke1; exact (ho.lt _ rfl).2
            have li1 : q.gi < w1.heap.size := (hin1.lt _ rfl).2
            have fK : w1.frozen? ⟨q.gk, m, none⟩ = false := by obtain ⟨hs, ho, _⟩ := hke1; exact ho.free m
            clear hx1 hk1 hke1 hin1 hxb1 hst1 hrx hry hyb KP KE IN ST WT CS HXB HXW
            have hss : ∀ W', Below w1.heap.size w1 W' → W'.cell? ⟨q.d, 0, none⟩ = some (.slice (some ⟨q.gk, 0, none⟩) D.many ck) ∧ W'.cell? ⟨gx, 0, none⟩ = some (.int .i64 (m : Nat)) ∧ W'.cell? ⟨gx, 1, none⟩ = some (.slice xa 128 xc) := fun W' hb => ⟨(hb.cell (p := ⟨q.d, 0, none⟩) lq1).trans e10, (hb.cell (p := ⟨gx, 0, none⟩) lx1).trans x0, (hb.cell (p := ⟨gx, 1, none⟩) lx1).trans x1⟩
            have HSS := Lib.hid hss
            have hgxk : gx ≠ q.gk := by
              obtain ⟨hs', ho', _⟩ := KE1.out
              obtain ⟨cs', hb'⟩ := ho'.blk (g := q.gk) rfl
              exact X1.out.ne_ hb' (by decide)
            clear hss
            refine wp_region_held_drew (S := fun w' => w'.cell? ⟨q.d, 0, none⟩ = some (.slice (some ⟨q.gk, 0, none⟩) D.many ck) ∧ w'.cell? ⟨gx, 0, none⟩ = some (.int .i64 (m : Nat)) ∧ w'.cell? ⟨gx, 1, none⟩ = some (.slice xa 128 xc)) (by kernel_rfl) ⟨e10, x0, x1⟩ (fun hHeld => ?_)
            refine wpAnyH_take (i := 0) (v := ?_) rfl (by decide +kernel) (by decide +kernel) (by decide +kernel) (fun _ _ _ h => h) (Or.inl ⟨by rfl, ?_⟩) (by assumption) ?_
            rotate_left 1
            · (intro w hSw; (try dsimp only at hSw); go_simp; try (with_reducible rfl))
            try simp only [List.getElem_toArray, List.getElem_cons_zero, List.getElem_cons_succ, Act.put, List.setIfInBounds_toArray, List.set_cons_zero, List.set_cons_succ]
            refine wpAnyH_take (i := 1) (v := ?_) rfl (by decide +kernel) (by decide +kernel) (by decide +kernel) (fun _ _ _ h => h) (Or.inl ⟨by rfl, ?_⟩) (by assumption) ?_
            rotate_left 1
            · (intro w hSw; (try dsimp only at hSw); go_simp; try (with_reducible rfl))
            try simp only [List.getElem_toArray, List.getElem_cons_zero, List.getElem_cons_succ, Act.put, List.setIfInBounds_toArray, List.set_cons_zero, List.set_cons_succ]
            refine wpAnyH_take (i := 2) (v := ?_) rfl (by decide +kernel) (by decide +kernel) (by decide +kernel) (fun _ _ _ h => h) (Or.inl ⟨by rfl, ?_⟩) (by assumption) ?_
            rotate_left 1
            · (intro w hSw; (try dsimp only at hSw); go_simp; try (with_reducible rfl))
            try simp only [List.getElem_toArray, List.getElem_cons_zero, List.getElem_cons_succ, Act.put, List.setIfInBounds_toArray, List.set_cons_zero, List.set_cons_succ]
            refine wpAnyH_take (i := 3) (v := ?_) rfl (by decide +kernel) (by decide +kernel) (by decide +kernel) (fun _ _ _ h => h) (Or.inl ⟨by rfl, ?_⟩) (by assumption) ?_
            rotate_left 1
            · (intro w hSw; (try dsimp only at hSw); obtain ⟨s1, s2, s3⟩ := hSw; go_simp; rfl)
            try simp only [List.getElem_toArray, List.getElem_cons_zero, List.getElem_cons_succ, Act.put, List.setIfInBounds_toArray, List.set_cons_zero, List.set_cons_succ]
            refine wpAnyH_take (i := 4) (v := ?_) rfl (by decide +kernel) (by decide +kernel) (by decide +kernel) (fun _ _ _ h => h) (Or.inl ⟨by rfl, ?_⟩) (by assumption) ?_
            rotate_left 1
            · (intro w hSw; (try dsimp only at hSw); go_simp; try (with_reducible rfl))
            try simp only [List.getElem_toArray, List.getElem_cons_zero, List.getElem_cons_succ, Act.put, List.setIfInBounds_toArray, List.set_cons_zero, List.set_cons_succ]
            refine wpAnyH_take (i := 5) (v := ?_) rfl (by decide +kernel) (by decide +kernel) (by decide +kernel) (fun _ _ _ h => h) (Or.inl ⟨by rfl, ?_⟩) (by assumption) ?_
            rotate_left 1
            · (intro w hSw; (try dsimp only at hSw); obtain ⟨s1, s2, s3⟩ := hSw; go_simp; rfl)
            try simp only [List.getElem_toArray, List.getElem_cons_zero, List.getElem_cons_succ, Act.put, List.setIfInBounds_toArray, List.set_cons_zero, List.set_cons_succ]
            refine wpAnyH_take (i := 7) (v := ?_) rfl (by decide +kernel) (by decide +kernel) (by decide +kernel) (fun _ _ _ h => h) (Or.inl ⟨by rfl, ?_⟩) (by assumption) ?_
            rotate_left 1
            · (intro w hSw; (try dsimp only at hSw); go_simp; try (with_reducible rfl))
            try simp only [List.getElem_toArray, List.getElem_cons_zero, List.getElem_cons_succ, Act.put, List.setIfInBounds_toArray, List.set_cons_zero, List.set_cons_succ]
            refine wpAnyH_take (i := 8) (v := ?_) rfl (by decide +kernel) (by decide +kernel) (by decide +kernel) (fun _ _ _ h => h) (Or.inl ⟨by rfl, ?_⟩) (by assumption) ?_
            rotate_left 1
            · (intro w hSw; (try dsimp only at hSw); obtain ⟨s1, s2, s3⟩ := hSw; go_simp; rfl)
            try simp only [List.getElem_toArray, List.getElem_cons_zero, List.getElem_cons_succ, Act.put, List.setIfInBounds_toArray, List.set_cons_zero, List.set_cons_succ]
            refine wpAnyH_take (i := 9) (v := ?_) rfl (by decide +kernel) (by decide +kernel) (by decide +kernel) (fun _ _ _ h => h) (Or.inl ⟨by rfl, ?_⟩) (by assumption) ?_
            rotate_left 1
            · (intro w hSw; (try dsimp only at hSw); go_simp; try (with_reducible rfl))
            try simp only [List.getElem_toArray, List.getElem_cons_zero, List.getElem_cons_succ, Act.put, List.setIfInBounds_toArray, List.set_cons_zero, List.set_cons_succ]
            refine wpAnyH_take (i := 10) (v := ?_) rfl (by decide +kernel) (by decide +kernel) (by decide +kernel) (fun _ _ _ h => h) (Or.inl ⟨by rfl, ?_⟩) (by assumption) ?_
            rotate_left 1
            · (intro w hSw; (try dsimp only at hSw); go_simp; rfl)
            try simp only [List.getElem_toArray, List.getElem_cons_zero, List.getElem_cons_succ, Act.put, List.setIfInBounds_toArray, List.set_cons_zero, List.set_cons_succ]
            refine wpAnyH_take (i := 12) (v := ?_) rfl (by decide +kernel) (by decide +kernel) (by decide +kernel) (fun _ _ _ h => h) (Or.inl ⟨by rfl, ?_⟩) (by assumption) ?_
            rotate_left 1
            · (intro w hSw; (try dsimp only at hSw); go_simp; try (with_reducible rfl))
            try simp only [List.getElem_toArray, List.getElem_cons_zero, List.getElem_cons_succ, Act.put, List.setIfInBounds_toArray, List.set_cons_zero, List.set_cons_succ]
            refine wpAnyH_take (i := 13) (v := ?_) rfl (by decide +kernel) (by decide +kernel) (by decide +kernel) (fun _ _ _ h => h) (Or.inl ⟨by rfl, ?_⟩) (by assumption) ?_
            rotate_left 1
            · (intro w hSw; (try dsimp only at hSw); go_simp; try (with_reducible rfl))
            try simp only [List.getElem_toArray, List.getElem_cons_zero, List.getElem_cons_succ, Act.put, List.setIfInBounds_toArray, List.set_cons_zero, List.set_cons_succ]
            refine wpAnyH_take (i := 14) (v := ?_) rfl (by decide +kernel) (by decide +kernel) (by decide +kernel) (fun _ _ _ h => h) (Or.inl ⟨by rfl, ?_⟩) (by assumption) ?_
            rotate_left 1
            · (intro w hSw; (try dsimp only at hSw); go_simp; try (with_reducible rfl))
            try simp only [List.getElem_toArray, List.getElem_cons_zero, List.getElem_cons_succ, Act.put, List.setIfInBounds_toArray, List.set_cons_zero, List.set_cons_succ]
            refine wpAnyH_take (i := 15) (v := ?_) rfl (by decide +kernel) (by decide +kernel) (by decide +kernel) (fun _ _ _ h => h) (Or.inl ⟨by rfl, ?_⟩) (by assumption) ?_
            rotate_left 1
            · (intro w hSw; (try dsimp only at hSw); obtain ⟨s1, s2, s3⟩ := hSw; go_simp; rfl)
            try simp only [List.getElem_toArray, List.getElem_cons_zero, List.getElem_cons_succ, Act.put, List.setIfInBounds_toArray, List.set_cons_zero, List.set_cons_succ]
            refine wpAnyH_take (i := 16) (v := ?_) rfl (by decide +kernel) (by decide +kernel) (by decide +kernel) (fun _ _ _ h => h) (Or.inl ⟨by rfl, ?_⟩) (by assumption) ?_
            rotate_left 1
            · (intro w hSw; (try dsimp only at hSw); go_simp; try (with_reducible rfl))
            try simp only [List.getElem_toArray, List.getElem_cons_zero, List.getElem_cons_succ, Act.put, List.setIfInBounds_toArray, List.set_cons_zero, List.set_cons_succ]
            refine wpAnyH_take (i := 17) (v := ?_) rfl (by decide +kernel) (by decide +kernel) (by decide +kernel) (fun _ _ _ h => h) (Or.inl ⟨by rfl, ?_⟩) (by assumption) ?_
            rotate_left 1
            · (intro w hSw; (try dsimp only at hSw); obtain ⟨s1, s2, s3⟩ := hSw; go_simp; rfl)
            try simp only [List.getElem_toArray, List.getElem_cons_zero, List.getElem_cons_succ, Act.put, List.setIfInBounds_toArray, List.set_cons_zero, List.set_cons_succ]
            refine wpAnyH_take (i := 18) (v := ?_) rfl (by decide +kernel) (by decide +kernel) (by decide +kernel) (fun _ _ _ h => h) (Or.inl ⟨by rfl, ?_⟩) (by assumption) ?_
            rotate_left 1
            · (intro w hSw; (try dsimp only at hSw); go_simp; try (with_reducible rfl))
            try simp only [List.getElem_toArray, List.getElem_cons_zero, List.getElem_cons_succ, Act.put, List.setIfInBounds_toArray, List.set_cons_zero, List.set_cons_succ]
            refine wpAnyH_take (i := 20) (v := ?_) rfl (by decide +kernel) (by decide +kernel) (by decide +kernel) (fun _ _ _ h => h) (Or.inl ⟨by rfl, ?_⟩) (by assumption) ?_
            rotate_left 1
            · (intro w hSw; (try dsimp only at hSw); go_simp; try (with_reducible rfl))
            try simp only [List.getElem_toArray, List.getElem_cons_zero, List.getElem_cons_succ, Act.put, List.setIfInBounds_toArray, List.set_cons_zero, List.set_cons_succ]
            refine wpAnyH_ready (rs := [6, 19]) (by decide +kernel) (by simp) ?_
            refine AllReadyH.cons rfl (fun K hK => ?_) (AllReadyH.cons rfl (fun K hK => ?_) AllReadyH.nil)
            · go_simp
              refine hK.out _ _ (HSS.out _ (by (repeat' (first | (with_reducible exact Below.refl _ _) | (with_reducible assumption) | (with_reducible refine Below.drew ?_) | (with_reducible refine below_drewN ?_ _) | (with_reducible refine Below.alloc ?_ ?_ _) | (with_reducible refine Below.setCell ?_ ?_ _) | omega | (simp; done) | (simp; omega))))) (fun hHeld => ?_)
              clear hK K
              try simp only [List.getElem_toArray, List.getElem_cons_zero, List.getElem_cons_succ, Act.put, List.setIfInBounds_toArray, List.set_cons_zero, List.set_cons_succ]
              refine wpAnyH_ready (rs := [11, 19]) (by decide +kernel) (by simp) ?_
              refine AllReadyH.cons rfl (fun K hK => ?_) (AllReadyH.cons rfl (fun K hK => ?_) AllReadyH.nil)
              · skip
                refine step_app rfl rfl elemB bv_one (s := .tmp 42) (N := cc) (L := L.take cc) rfl (Ow.new _ _ #[] [] rfl (by decide)) rfl (k := L.take cc) (HRX.out.below (b := w1.heap.size) (by (repeat' (first | (with_reducible exact Below.refl _ _) | (with_reducible assumption) | (with_reducible refine Below.drew ?_) | (with_reducible refine below_drewN ?_ _) | (with_reducible refine Below.alloc ?_ ?_ _) | (with_reducible refine Below.setCell ?_ ?_ _) | omega | (simp; done) | (simp; omega)))) (Nat.le_refl _)) (by omega) (by simp) (by unfold maxLen; omega) (by omega) (by simp; done) ?_
                intro A5 c5 w5 hown5 hg5 hat5 hb5
                have b5 : Below w1.heap.size w1 w5 := Below.trans (by (repeat' (first | (with_reducible exact Below.refl _ _) | (with_reducible assumption) | (with_reducible refine Below.drew ?_) | (with_reducible refine below_drewN ?_ _) | (with_reducible refine Below.alloc ?_ ?_ _) | (with_reducible refine Below.setCell ?_ ?_ _) | omega | (simp; done) | (simp; omega)))) hb5
                have s5 := b5.size
                have y5 : w5.cell? ⟨q.gk, m, none⟩ = some (.slice ya 128 yc) := (b5.cell (p := ⟨q.gk, m, none⟩) lk1).trans hyc
                refine hK.out _ _ (HSS.out _ b5) (fun hHeld => ?_)
                clear hK K
                try simp only [List.getElem_toArray, List.getElem_cons_zero, List.getElem_cons_succ, Act.put, List.setIfInBounds_toArray, List.set_cons_zero, List.set_cons_succ]
                refine wpAnyH_ready (rs := [19]) (by decide +kernel) (by simp) ?_
                refine AllReadyH.cons rfl (fun K hK => ?_) AllReadyH.nil
                go_simp
                refine hK.out _ _ (HSS.out _ b5) (fun hHeld => ?_)
                clear hK K
                try simp only [List.getElem_toArray, List.getElem_cons_zero, List.getElem_cons_succ, Act.put, List.setIfInBounds_toArray, List.set_cons_zero, List.set_cons_succ]
                refine wpAnyH_take (i := 21) (v := ?_) rfl (by decide +kernel) (by decide +kernel) (by decide +kernel) (fun _ _ _ h => h) (Or.inl ⟨by rfl, ?_⟩) (by assumption) ?_
                rotate_left 1
                · (intro w hSw; (try dsimp only at hSw); go_simp; rfl)
                try simp only [List.getElem_toArray, List.getElem_cons_zero, List.getElem_cons_succ, Act.put, List.setIfInBounds_toArray, List.set_cons_zero, List.set_cons_succ]
                refine wpAnyH_ready (rs := [22]) (by decide +kernel) (by simp) ?_
                refine AllReadyH.cons rfl (fun K hK => ?_) AllReadyH.nil
                refine step_app rfl rfl elemB bv_one (s := .tmp 47) (N := 128) (L := L.take cc ++ (secOf S1 (m : Int)).drop cc) rfl hown5 rfl (k := (secOf S1 (m : Int)).drop cc) (HRY.out.below (b := w1.heap.size) b5 (Nat.le_refl _)) (by omega) rfl (by unfold maxLen; omega) (by omega) s5 ?_
                intro A7 c7 w7 hown7 hg7 hat7 hb7
                have b7 : Below w1.heap.size w1 w7 := b5.trans hb7
                refine hK.out _ _ (HSS.out _ b7) (fun hHeld => ?_)
                clear hK K
                try simp only [List.getElem_toArray, List.getElem_cons_zero, List.getElem_cons_succ, Act.put, List.setIfInBounds_toArray, List.set_cons_zero, List.set_cons_succ]
                refine wpAnyH_take (i := 23) (v := ?_) rfl (by decide +kernel) (by decide +kernel) (by decide +kernel) (fun _ _ _ h => h) (Or.inl ⟨by rfl, ?_⟩) (by assumption) ?_
                rotate_left 1
                · (intro w hSw; (try dsimp only at hSw); go_simp; try (with_reducible rfl))
                try simp only [List.getElem_toArray, List.getElem_cons_zero, List.getElem_cons_succ, Act.put, List.setIfInBounds_toArray, List.set_cons_zero, List.set_cons_succ]
                refine wpAnyH_ready (rs := [24]) (by decide +kernel) (by simp) ?_
                refine AllReadyH.cons rfl (fun K hK => ?_) AllReadyH.nil
                have y7 : w7.cell? ⟨q.gk, m, none⟩ = some (.slice ya 128 yc) := (b7.cell (p := ⟨q.gk, m, none⟩) lk1).trans hyc
                have ke7 := KE1.out.below b7
                have f7 : w7.frozen? ⟨q.gk, m, none⟩ = false := by obtain ⟨hs', ho', _⟩ := ke7; exact ho'.free m
                go_simp
                have st8 : Blk (w7.setCell ⟨q.gk, m, none⟩ (.slice A7 128 c7)) q.d 119 (rdC q D.many ck ci (some ⟨g, 0, none⟩) D.waits.length c D.room D.cut D.off) := (ST1.out.below b7 lq1).far (p := ⟨q.gk, m, none⟩) p1 _
                have x8 : Blk (w7.setCell ⟨q.gk, m, none⟩ (.slice A7 128 c7)) gx 169 [.int .i64 (m : Nat), .slice xa 128 xc] := (X1.out.below b7 lx1).far (p := ⟨q.gk, m, none⟩) hgxk _
                refine hK.out _ _ (⟨st8.cell 0, x8.cell 0, x8.cell 1⟩) (fun hHeld => ?_)
                clear hK K
                try simp only [List.getElem_toArray, List.getElem_cons_zero, List.getElem_cons_succ, Act.put, List.setIfInBounds_toArray, List.set_cons_zero, List.set_cons_succ]
                refine wpAnyH_done (by decide +kernel) ?_ _
                have k8 : Keep (fun g => g = q.gk ∨ g = q.gi) w (w7.setCell ⟨q.gk, m, none⟩ (.slice A7 128 c7)) := (K1.out.trans (Keep.of_below (F := fun _ => False) b7) (fun _ _ e => e.elim)).set_ (i := m) (.slice A7 128 c7) (.inl rfl)
                have ltk : (L.take cc).length = cc := by rw [List.length_take, PL2.out]; omega
                have hcap7 := hown7.cap
                have ke8 : KeptAt (w7.setCell ⟨q.gk, m, none⟩ (.slice A7 128 c7)) base q.gk D.many ck (splice S1 (m * 128) (L.take cc)) := ke7.setG (x := ⟨A7, 128, c7⟩) (L := L.take cc ++ (secOf S1 (m : Int)).drop cc) pl1 ⟨rfl, hcap7⟩ (BytesAt.of_ob (base := base) (h := ⟨A7, 128, c7⟩) hown7) (fun j hj => (by
                  rw [secOf_part HL.out (by omega) pl1 hj]
                  split
                  · rename_i e
                    subst e
                    unfold splice
                    rw [List.take_zero, List.nil_append, ltk, Nat.zero_add]
                  · rfl))
                have in7 := IN1.out.below b7 (Nat.le_refl _)
                have in8 : Ow boolV (w7.setCell ⟨q.gk, m, none⟩ (.slice A7 128 c7)) base 4 (some ⟨q.gi, 0, none⟩) D.many ci S2 := ⟨in7.1, own_keep (F := fun g => g = q.gk) in7.2 (Keep.one (grown_setCell _)) (fun g e e2 => gkn (by rw [← e2]; simpa [Value.ownBlock] using e.symm))⟩
                have K8 := Lib.hid k8
                have KE8 := Lib.hid ke8
                have IN8 := Lib.hid in8
                generalize (if yc = cc then ya else Option.map (fun x => x.add cc) ya) = YA at *
                clear k8 ke8 in7 ke7 hown7 hg7 hat7 hb7 hown5 hg5 hat5 hb5 b5 b7 y5 y7 f7 hcap7 ltk hHeld
                generalize w7.setCell ⟨q.gk, m, none⟩ (.slice A7 128 c7) = w8 at *
                have e81 : w8.cell? ⟨q.d, 1, none⟩ = some (.slice (some ⟨q.gi, 0, none⟩) D.many ci) := st8.cell 1
                have x80 : w8.cell? ⟨gx, 0, none⟩ = some (.int .i64 (m : Nat)) := x8.cell 0
                have f8 := in8.free m
                obtain ⟨v8, hv8⟩ : ∃ v, w8.cell? ⟨q.gi, m, none⟩ = some v := by
                  obtain ⟨b9, o9, e2, _, e3⟩ := in8.rd.2.at_ pl1
                  injection e2 with e2
                  injection e2 with e4 e5 _
                  subst e4 e5
                  rw [Nat.zero_add] at e3
                  exact ⟨_, e3⟩
                clear in8 st8 x8
                go_wp2_with fail
                refine wp_region_quiet_tail 7 (by kernel_rfl) (by kernel_rfl) ?_
                simp only [List.take_succ_cons, List.take_zero, List.drop_succ_cons, List.drop_zero]
                repeat (go_big_quiet_step (fail))
                refine wpQuiet_nil ?_
                go_wp2_with fail
                go_roundw
                case rel =>
                  have in9 := IN8.out.set m true (.bool true) rfl
                  have ke9 := (KE8.out.keepF (F := fun g => g = q.gi) (w' := w8.setCell ⟨q.gi, m, none⟩ (.bool true)) (Keep.one (grown_setCell _)) (fun g e => (by subst e; obtain ⟨cs', hb'⟩ := IN8.out.blk (g := q.gi) rfl; exact ⟨(IN8.out.lt _ rfl).1, not_u8 hb' (by decide)⟩)) gkn)
                  have b2 : ∀ W : World, Below W.heap.size W W.drew := fun W => Below.drew (Below.refl _ _)
                  have f1 : KeptAt ((w8.setCell ⟨q.gi, m, none⟩ (.bool true)).drew) base q.gk D.many ck (crashK D.waits cs (D.kept, D.inuse) (k + 1)).1 := by rw [hnx2.out]; exact ke9.below (b2 _)
                  have f2 : Ow boolV ((w8.setCell ⟨q.gi, m, none⟩ (.bool true)).drew) base 4 (some ⟨q.gi, 0, none⟩) D.many ci (crashK D.waits cs (D.kept, D.inuse) (k + 1)).2 := by rw [hnx2.out]; exact in9.below (b2 _) (Nat.le_refl _)
                  have f3 := (K8.out.set_ (i := m) (.bool true) (.inr rfl)).drewN 1
                  first
                    | exact ⟨k + 1, by omega, by go_num, f3, f1, f2⟩
                    | ((repeat apply Exists.intro); exact ⟨⟨k + 1, by omega, by go_num, f3, f1, f2⟩, rfl⟩)
                case measure => simp [intOf]; omega
              · go_simp
                refine hK.out _ _ (HSS.out _ (by (repeat' (first | (with_reducible exact Below.refl _ _) | (with_reducible assumption) | (with_reducible refine Below.drew ?_) | (with_reducible refine below_drewN ?_ _) | (with_reducible refine Below.alloc ?_ ?_ _) | (with_reducible refine Below.setCell ?_ ?_ _) | omega | (simp; done) | (simp; omega))))) (fun hHeld => ?_)
                clear hK K
                try simp only [List.getElem_toArray, List.getElem_cons_zero, List.getElem_cons_succ, Act.put, List.setIfInBounds_toArray, List.set_cons_zero, List.set_cons_succ]
                refine wpAnyH_take (i := 21) (v := ?_) rfl (by decide +kernel) (by decide +kernel) (by decide +kernel) (fun _ _ _ h => h) (Or.inl ⟨by rfl, ?_⟩) (by assumption) ?_
                rotate_left 1
                · (intro w hSw; (try dsimp only at hSw); go_simp; rfl)
                try simp only [List.getElem_toArray, List.getElem_cons_zero, List.getElem_cons_succ, Act.put, List.setIfInBounds_toArray, List.set_cons_zero, List.set_cons_succ]
                refine wpAnyH_ready (rs := [11]) (by decide +kernel) (by simp) ?_
                refine AllReadyH.cons rfl (fun K hK => ?_) AllReadyH.nil
                refine step_app rfl rfl elemB bv_one (s := .tmp 42) (N := cc) (L := L.take cc) rfl (Ow.new _ _ #[] [] rfl (by decide)) rfl (k := L.take cc) (HRX.out.below (b := w1.heap.size) (by (repeat' (first | (with_reducible exact Below.refl _ _) | (with_reducible assumption) | (with_reducible refine Below.drew ?_) | (with_reducible refine below_drewN ?_ _) | (with_reducible refine Below.alloc ?_ ?_ _) | (with_reducible refine Below.setCell ?_ ?_ _) | omega | (simp; done) | (simp; omega)))) (Nat.le_refl _)) (by omega) (by simp) (by unfold maxLen; omega) (by omega) (by simp; done) ?_
                intro A5 c5 w5 hown5 hg5 hat5 hb5
                have b5 : Below w1.heap.size w1 w5 := Below.trans (by (repeat' (first | (with_reducible exact Below.refl _ _) | (with_reducible assumption) | (with_reducible refine Below.drew ?_) | (with_reducible refine below_drewN ?_ _) | (with_reducible refine Below.alloc ?_ ?_ _) | (with_reducible refine Below.setCell ?_ ?_ _) | omega | (simp; done) | (simp; omega)))) hb5
                have s5 := b5.size
                have y5 : w5.cell? ⟨q.gk, m, none⟩ = some (.slice ya 128 yc) := (b5.cell (p := ⟨q.gk, m, none⟩) lk1).trans hyc
                refine hK.out _ _ (HSS.out _ b5) (fun hHeld => ?_)
                clear hK K
                try simp only [List.getElem_toArray, List.getElem_cons_zero, List.getElem_cons_succ, Act.put, List.setIfInBounds_toArray, List.set_cons_zero, List.set_cons_succ]
                refine wpAnyH_ready (rs := [22]) (by decide +kernel) (by simp) ?_
                refine AllReadyH.cons rfl (fun K hK => ?_) AllReadyH.nil
                refine step_app rfl rfl elemB bv_one (s := .tmp 47) (N := 128) (L := L.take cc ++ (secOf S1 (m : Int)).drop cc) rfl hown5 rfl (k := (secOf S1 (m : Int)).drop cc) (HRY.out.below (b := w1.heap.size) b5 (Nat.le_refl _)) (by omega) rfl (by unfold maxLen; omega) (by omega) s5 ?_
                intro A7 c7 w7 hown7 hg7 hat7 hb7
                have b7 : Below w1.heap.size w1 w7 := b5.trans hb7
                refine hK.out _ _ (HSS.out _ b7) (fun hHeld => ?_)
                clear hK K
                try simp only [List.getElem_toArray, List.getElem_cons_zero, List.getElem_cons_succ, Act.put, List.setIfInBounds_toArray, List.set_cons_zero, List.set_cons_succ]
                refine wpAnyH_take (i := 23) (v := ?_) rfl (by decide +kernel) (by decide +kernel) (by decide +kernel) (fun _ _ _ h => h) (Or.inl ⟨by rfl, ?_⟩) (by assumption) ?_
                rotate_left 1
                · (intro w hSw; (try dsimp only at hSw); go_simp; try (with_reducible rfl))
                try simp only [List.getElem_toArray, List.getElem_cons_zero, List.getElem_cons_succ, Act.put, List.setIfInBounds_toArray, List.set_cons_zero, List.set_cons_succ]
                refine wpAnyH_ready (rs := [24]) (by decide +kernel) (by simp) ?_
                refine AllReadyH.cons rfl (fun K hK => ?_) AllReadyH.nil
                have y7 : w7.cell? ⟨q.gk, m, none⟩ = some (.slice ya 128 yc) := (b7.cell (p := ⟨q.gk, m, none⟩) lk1).trans hyc
                have ke7 := KE1.out.below b7
                have f7 : w7.frozen? ⟨q.gk, m, none⟩ = false := by obtain ⟨hs', ho', _⟩ := ke7; exact ho'.free m
                go_simp
                have st8 : Blk (w7.setCell ⟨q.gk, m, none⟩ (.slice A7 128 c7)) q.d 119 (rdC q D.many ck ci (some ⟨g, 0, none⟩) D.waits.length c D.room D.cut D.off) := (ST1.out.below b7 lq1).far (p := ⟨q.gk, m, none⟩) p1 _
                have x8 : Blk (w7.setCell ⟨q.gk, m, none⟩ (.slice A7 128 c7)) gx 169 [.int .i64 (m : Nat), .slice xa 128 xc] := (X1.out.below b7 lx1).far (p := ⟨q.gk, m, none⟩) hgxk _
                refine hK.out _ _ (⟨st8.cell 0, x8.cell 0, x8.cell 1⟩) (fun hHeld => ?_)
                clear hK K
                try simp only [List.getElem_toArray, List.getElem_cons_zero, List.getElem_cons_succ, Act.put, List.setIfInBounds_toArray, List.set_cons_zero, List.set_cons_succ]
                refine wpAnyH_done (by decide +kernel) ?_ _
                have k8 : Keep (fun g => g = q.gk ∨ g = q.gi) w (w7.setCell ⟨q.gk, m, none⟩ (.slice A7 128 c7)) := (K1.out.trans (Keep.of_below (F := fun _ => False) b7) (fun _ _ e => e.elim)).set_ (i := m) (.slice A7 128 c7) (.inl rfl)
                have ltk : (L.take cc).length = cc := by rw [List.length_take, PL2.out]; omega
                have hcap7 := hown7.cap
                have ke8 : KeptAt (w7.setCell ⟨q.gk, m, none⟩ (.slice A7 128 c7)) base q.gk D.many ck (splice S1 (m * 128) (L.take cc)) := ke7.setG (x := ⟨A7, 128, c7⟩) (L := L.take cc ++ (secOf S1 (m : Int)).drop cc) pl1 ⟨rfl, hcap7⟩ (BytesAt.of_ob (base := base) (h := ⟨A7, 128, c7⟩) hown7) (fun j hj => (by
                  rw [secOf_part HL.out (by omega) pl1 hj]
                  split
                  · rename_i e
                    subst e
                    unfold splice
                    rw [List.take_zero, List.nil_append, ltk, Nat.zero_add]
                  · rfl))
                have in7 := IN1.out.below b7 (Nat.le_refl _)
                have in8 : Ow boolV (w7.setCell ⟨q.gk, m, none⟩ (.slice A7 128 c7)) base 4 (some ⟨q.gi, 0, none⟩) D.many ci S2 := ⟨in7.1, own_keep (F := fun g => g = q.gk) in7.2 (Keep.one (grown_setCell _)) (fun g e e2 => gkn (by rw [← e2]; simpa [Value.ownBlock] using e.symm))⟩
                have K8 := Lib.hid k8
                have KE8 := Lib.hid ke8
                have IN8 := Lib.hid in8
                generalize (if yc = cc then ya else Option.map (fun x => x.add cc) ya) = YA at *
                clear k8 ke8 in7 ke7 hown7 hg7 hat7 hb7 hown5 hg5 hat5 hb5 b5 b7 y5 y7 f7 hcap7 ltk hHeld
                generalize w7.setCell ⟨q.gk, m, none⟩ (.slice A7 128 c7) = w8 at *
                have e81 : w8.cell? ⟨q.d, 1, none⟩ = some (.slice (some ⟨q.gi, 0, none⟩) D.many ci) := st8.cell 1
                have x80 : w8.cell? ⟨gx, 0, none⟩ = some (.int .i64 (m : Nat)) := x8.cell 0
                have f8 := in8.free m
                obtain ⟨v8, hv8⟩ : ∃ v, w8.cell? ⟨q.gi, m, none⟩ = some v := by
                  obtain ⟨b9, o9, e2, _, e3⟩ := in8.rd.2.at_ pl1
                  injection e2 with e2
                  injection e2 with e4 e5 _
                  subst e4 e5
                  rw [Nat.zero_add] at e3
                  exact ⟨_, e3⟩
                clear in8 st8 x8
                go_wp2_with fail
                refine wp_region_quiet_tail 7 (by kernel_rfl) (by kernel_rfl) ?_
                simp only [List.take_succ_cons, List.take_zero, List.drop_succ_cons, List.drop_zero]
                repeat (go_big_quiet_step (fail))
                refine wpQuiet_nil ?_
                go_wp2_with fail
                go_roundw
                case rel =>
                  have in9 := IN8.out.set m true (.bool true) rfl
                  have ke9 := (KE8.out.keepF (F := fun g => g = q.gi) (w' := w8.setCell ⟨q.gi, m, none⟩ (.bool true)) (Keep.one (grown_setCell _)) (fun g e => (by subst e; obtain ⟨cs', hb'⟩ := IN8.out.blk (g := q.gi) rfl; exact ⟨(IN8.out.lt _ rfl).1, not_u8 hb' (by decide)⟩)) gkn)
                  have b2 : ∀ W : World, Below W.heap.size W W.drew := fun W => Below.drew (Below.refl _ _)
                  have f1 : KeptAt ((w8.setCell ⟨q.gi, m, none⟩ (.bool true)).drew) base q.gk D.many ck (crashK D.waits cs (D.kept, D.inuse) (k + 1)).1 := by rw [hnx2.out]; exact ke9.below (b2 _)
                  have f2 : Ow boolV ((w8.setCell ⟨q.gi, m, none⟩ (.bool true)).drew) base 4 (some ⟨q.gi, 0, none⟩) D.many ci (crashK D.waits cs (D.kept, D.inuse) (k + 1)).2 := by rw [hnx2.out]; exact in9.below (b2 _) (Nat.le_refl _)
                  have f3 := (K8.out.set_ (i := m) (.bool true) (.inr rfl)).drewN 1
                  first
                    | exact ⟨k + 1, by omega, by go_num, f3, f1, f2⟩
                    | ((repeat apply Exists.intro); exact ⟨⟨k + 1, by omega, by go_num, f3, f1, f2⟩, rfl⟩)
                case measure => simp [intOf]; omega
            · go_simp
              refine hK.out _ _ (HSS.out _ (by (repeat' (first | (with_reducible exact Below.refl _ _) | (with_reducible assumption) | (with_reducible refine Below.drew ?_) | (with_reducible refine below_drewN ?_ _) | (with_reducible refine Below.alloc ?_ ?_ _) | (with_reducible refine Below.setCell ?_ ?_ _) | omega | (simp; done) | (simp; omega))))) (fun hHeld => ?_)
              clear hK K
              try simp only [List.getElem_toArray, List.getElem_cons_zero, List.getElem_cons_succ, Act.put, List.setIfInBounds_toArray, List.set_cons_zero, List.set_cons_succ]
              refine wpAnyH_take (i := 21) (v := ?_) rfl (by decide +kernel) (by decide +kernel) (by decide +kernel) (fun _ _ _ h => h) (Or.inl ⟨by rfl, ?_⟩) (by assumption) ?_
              rotate_left 1
              · (intro w hSw; (try dsimp only at hSw); go_simp; rfl)
              try simp only [List.getElem_toArray, List.getElem_cons_zero, List.getElem_cons_succ, Act.put, List.setIfInBounds_toArray, List.set_cons_zero, List.set_cons_succ]
              refine wpAnyH_ready (rs := [6]) (by decide +kernel) (by simp) ?_
              refine AllReadyH.cons rfl (fun K hK => ?_) AllReadyH.nil
              go_simp
              refine hK.out _ _ (HSS.out _ (by (repeat' (first | (with_reducible exact Below.refl _ _) | (with_reducible assumption) | (with_reducible refine Below.drew ?_) | (with_reducible refine below_drewN ?_ _) | (with_reducible refine Below.alloc ?_ ?_ _) | (with_reducible refine Below.setCell ?_ ?_ _) | omega | (simp; done) | (simp; omega))))) (fun hHeld => ?_)
              clear hK K
              try simp only [List.getElem_toArray, List.getElem_cons_zero, List.getElem_cons_succ, Act.put, List.setIfInBounds_toArray, List.set_cons_zero, List.set_cons_succ]
              refine wpAnyH_ready (rs := [11]) (by decide +kernel) (by simp) ?_
              refine AllReadyH.cons rfl (fun K hK => ?_) AllReadyH.nil
              refine step_app rfl rfl elemB bv_one (s := .tmp 42) (N := cc) (L := L.take cc) rfl (Ow.new _ _ #[] [] rfl (by decide)) rfl (k := L.take cc) (HRX.out.below (b := w1.heap.size) (by (repeat' (first | (with_reducible exact Below.refl _ _) | (with_reducible assumption) | (with_reducible refine Below.drew ?_) | (with_reducible refine below_drewN ?_ _) | (with_reducible refine Below.alloc ?_ ?_ _) | (with_reducible refine Below.setCell ?_ ?_ _) | omega | (simp; done) | (simp; omega)))) (Nat.le_refl _)) (by omega) (by simp) (by unfold maxLen; omega) (by omega) (by simp; done) ?_
              intro A5 c5 w5 hown5 hg5 hat5 hb5
              have b5 : Below w1.heap.size w1 w5 := Below.trans (by (repeat' (first | (with_reducible exact Below.refl _ _) | (with_reducible assumption) | (with_reducible refine Below.drew ?_) | (with_reducible refine below_drewN ?_ _) | (with_reducible refine Below.alloc ?_ ?_ _) | (with_reducible refine Below.setCell ?_ ?_ _) | omega | (simp; done) | (simp; omega)))) hb5
              have s5 := b5.size
              have y5 : w5.cell? ⟨q.gk, m, none⟩ = some (.slice ya 128 yc) := (b5.cell (p := ⟨q.gk, m, none⟩) lk1).trans hyc
              refine hK.out _ _ (HSS.out _ b5) (fun hHeld => ?_)
              clear hK K
              try simp only [List.getElem_toArray, List.getElem_cons_zero, List.getElem_cons_succ, Act.put, List.setIfInBounds_toArray, List.set_cons_zero, List.set_cons_succ]
              refine wpAnyH_ready (rs := [22]) (by decide +kernel) (by simp) ?_
              refine AllReadyH.cons rfl (fun K hK => ?_) AllReadyH.nil
              refine step_app rfl rfl elemB bv_one (s := .tmp 47) (N := 128) (L := L.take cc ++ (secOf S1 (m : Int)).drop cc) rfl hown5 rfl (k := (secOf S1 (m : Int)).drop cc) (HRY.out.below (b := w1.heap.size) b5 (Nat.le_refl _)) (by omega) rfl (by unfold maxLen; omega) (by omega) s5 ?_
              intro A7 c7 w7 hown7 hg7 hat7 hb7
              have b7 : Below w1.heap.size w1 w7 := b5.trans hb7
              refine hK.out _ _ (HSS.out _ b7) (fun hHeld => ?_)
              clear hK K
              try simp only [List.getElem_toArray, List.getElem_cons_zero, List.getElem_cons_succ, Act.put, List.setIfInBounds_toArray, List.set_cons_zero, List.set_cons_succ]
              refine wpAnyH_take (i := 23) (v := ?_) rfl (by decide +kernel) (by decide +kernel) (by decide +kernel) (fun _ _ _ h => h) (Or.inl ⟨by rfl, ?_⟩) (by assumption) ?_
              rotate_left 1
              · (intro w hSw; (try dsimp only at hSw); go_simp; try (with_reducible rfl))
              try simp only [List.getElem_toArray, List.getElem_cons_zero, List.getElem_cons_succ, Act.put, List.setIfInBounds_toArray, List.set_cons_zero, List.set_cons_succ]
              refine wpAnyH_ready (rs := [24]) (by decide +kernel) (by simp) ?_
              refine AllReadyH.cons rfl (fun K hK => ?_) AllReadyH.nil
              have y7 : w7.cell? ⟨q.gk, m, none⟩ = some (.slice ya 128 yc) := (b7.cell (p := ⟨q.gk, m, none⟩) lk1).trans hyc
              have ke7 := KE1.out.below b7
              have f7 : w7.frozen? ⟨q.gk, m, none⟩ = false := by obtain ⟨hs', ho', _⟩ := ke7; exact ho'.free m
              go_simp
              have st8 : Blk (w7.setCell ⟨q.gk, m, none⟩ (.slice A7 128 c7)) q.d 119 (rdC q D.many ck ci (some ⟨g, 0, none⟩) D.waits.length c D.room D.cut D.off) := (ST1.out.below b7 lq1).far (p := ⟨q.gk, m, none⟩) p1 _
              have x8 : Blk (w7.setCell ⟨q.gk, m, none⟩ (.slice A7 128 c7)) gx 169 [.int .i64 (m : Nat), .slice xa 128 xc] := (X1.out.below b7 lx1).far (p := ⟨q.gk, m, none⟩) hgxk _
              refine hK.out _ _ (⟨st8.cell 0, x8.cell 0, x8.cell 1⟩) (fun hHeld => ?_)
              clear hK K
              try simp only [List.getElem_toArray, List.getElem_cons_zero, List.getElem_cons_succ, Act.put, List.setIfInBounds_toArray, List.set_cons_zero, List.set_cons_succ]
              refine wpAnyH_done (by decide +kernel) ?_ _
              have k8 : Keep (fun g => g = q.gk ∨ g = q.gi) w (w7.setCell ⟨q.gk, m, none⟩ (.slice A7 128 c7)) := (K1.out.trans (Keep.of_below (F := fun _ => False) b7) (fun _ _ e => e.elim)).set_ (i := m) (.slice A7 128 c7) (.inl rfl)
              have ltk : (L.take cc).length = cc := by rw [List.length_take, PL2.out]; omega
              have hcap7 := hown7.cap
              have ke8 : KeptAt (w7.setCell ⟨q.gk, m, none⟩ (.slice A7 128 c7)) base q.gk D.many ck (splice S1 (m * 128) (L.take cc)) := ke7.setG (x := ⟨A7, 128, c7⟩) (L := L.take cc ++ (secOf S1 (m : Int)).drop cc) pl1 ⟨rfl, hcap7⟩ (BytesAt.of_ob (base := base) (h := ⟨A7, 128, c7⟩) hown7) (fun j hj => (by
                rw [secOf_part HL.out (by omega) pl1 hj]
                split
                · rename_i e
                  subst e
                  unfold splice
                  rw [List.take_zero, List.nil_append, ltk, Nat.zero_add]
                · rfl))
              have in7 := IN1.out.below b7 (Nat.le_refl _)
              have in8 : Ow boolV (w7.setCell ⟨q.gk, m, none⟩ (.slice A7 128 c7)) base 4 (some ⟨q.gi, 0, none⟩) D.many ci S2 := ⟨in7.1, own_keep (F := fun g => g = q.gk) in7.2 (Keep.one (grown_setCell _)) (fun g e e2 => gkn (by rw [← e2]; simpa [Value.ownBlock] using e.symm))⟩
              have K8 := Lib.hid k8
              have KE8 := Lib.hid ke8
              have IN8 := Lib.hid in8
              generalize (if yc = cc then ya else Option.map (fun x => x.add cc) ya) = YA at *
              clear k8 ke8 in7 ke7 hown7 hg7 hat7 hb7 hown5 hg5 hat5 hb5 b5 b7 y5 y7 f7 hcap7 ltk hHeld
              generalize w7.setCell ⟨q.gk, m, none⟩ (.slice A7 128 c7) = w8 at *
              have e81 : w8.cell? ⟨q.d, 1, none⟩ = some (.slice (some ⟨q.gi, 0, none⟩) D.many ci) := st8.cell 1
              have x80 : w8.cell? ⟨gx, 0, none⟩ = some (.int .i64 (m : Nat)) := x8.cell 0
              have f8 := in8.free m
              obtain ⟨v8, hv8⟩ : ∃ v, w8.cell? ⟨q.gi, m, none⟩ = some v := by
                obtain ⟨b9, o9, e2, _, e3⟩ := in8.rd.2.at_ pl1
                injection e2 with e2
                injection e2 with e4 e5 _
                subst e4 e5
                rw [Nat.zero_add] at e3
                exact ⟨_, e3⟩
              clear in8 st8 x8
              go_wp2_with fail
              refine wp_region_quiet_tail 7 (by kernel_rfl) (by kernel_rfl) ?_
              simp only [List.take_succ_cons, List.take_zero, List.drop_succ_cons, List.drop_zero]
              repeat (go_big_quiet_step (fail))
              refine wpQuiet_nil ?_
              go_wp2_with fail
              go_roundw
              case rel =>
                have in9 := IN8.out.set m true (.bool true) rfl
                have ke9 := (KE8.out.keepF (F := fun g => g = q.gi) (w' := w8.setCell ⟨q.gi, m, none⟩ (.bool true)) (Keep.one (grown_setCell _)) (fun g e => (by subst e; obtain ⟨cs', hb'⟩ := IN8.out.blk (g := q.gi) rfl; exact ⟨(IN8.out.lt _ rfl).1, not_u8 hb' (by decide)⟩)) gkn)
                have b2 : ∀ W : World, Below W.heap.size W W.drew := fun W => Below.drew (Below.refl _ _)
                have f1 : KeptAt ((w8.setCell ⟨q.gi, m, none⟩ (.bool true)).drew) base q.gk D.many ck (crashK D.waits cs (D.kept, D.inuse) (k + 1)).1 := by rw [hnx2.out]; exact ke9.below (b2 _)
                have f2 : Ow boolV ((w8.setCell ⟨q.gi, m, none⟩ (.bool true)).drew) base 4 (some ⟨q.gi, 0, none⟩) D.many ci (crashK D.waits cs (D.kept, D.inuse) (k + 1)).2 := by rw [hnx2.out]; exact in9.below (b2 _) (Nat.le_refl _)
                have f3 := (K8.out.set_ (i := m) (.bool true) (.inr rfl)).drewN 1
                first
                  | exact ⟨k + 1, by omega, by go_num, f3, f1, f2⟩
                  | ((repeat apply Exists.intro); exact ⟨⟨k + 1, by omega, by go_num, f3, f1, f2⟩, rfl⟩)
              case measure => simp [intOf]; omega
    · have hk9 : k = D.waits.length := by omega
      have hE : Hid (crashK D.waits cs (D.kept, D.inuse) k = crashE D cs) := by show _ = _; rw [HCE.out, hk9]
      rw [hE.out] at hke hin
      have KE := Lib.hid hke
      have IN := Lib.hid hin
      have fd := hst.frozen
      have d4 : wr.cell? ⟨q.d, 4, none⟩ = some (.int .i64 D.cut) := hst.cell 4
      have d5 : wr.cell? ⟨q.d, 5, none⟩ = some (.bool D.off) := hst.cell 5
      clear hke hin hst hwt hcs hk9
      go_wp2
      go_end0
      refine ⟨rfl, none, 0, ⟨HOK.out, HCO.out, HH.out.ops, ((ST.out.set_ 2 _).set_ 5 _).set_ 4 _, ?_, ?_, WaitAt.nil _ _, ?_, HH.out.bd, HH.out.bo⟩, ?_⟩
      · exact KE.out.keepF (F := fun g => g = q.d) ((((Keep.refl (fun g => g = q.d) wr).set_ _ rfl).set_ _ rfl).set_ _ rfl) (fun g e => (by subst e; exact ⟨HH.out.bd, not_u8 ST.out (by decide)⟩)) (fun e => p1 e.symm)
      · exact ⟨IN.out.1, own_keep (F := fun g => g = q.d) IN.out.2 ((((Keep.refl (fun g => g = q.d) wr).set_ _ rfl).set_ _ rfl).set_ _ rfl) (fun g e e2 => p2 (by rw [← e2]; simpa [Value.ownBlock] using e.symm))⟩
      · exact (((HH.out.op.keep KP.out (fun e => by rcases e with e | e; exact p5 e.symm; exact p6 e.symm)).far (p := ⟨q.d, 2, none⟩) p3.symm _).far (p := ⟨q.d, 5, none⟩) p3.symm _).far (p := ⟨q.d, 4, none⟩) p3.symm _
      · exact (((KP.out.mono (G := fun g => rfoot q A g) (fun g _ e => by rcases e with e | e; exact .inr (.inl e); exact .inr (.inr (.inl e)))).set_ _ (.inl rfl)).set_ _ (.inl rfl)).set_ _ (.inl rfl)
end
end Go.Proofs.YtalmdccgpigppaaGreat
