/- Parts: StateF, VerifyA, Sign. -/
import Derived.Test.YtpmkpckldnnigaaGreatPr02
import Derived.Test.YtpmkpckldnnigaaGreatPr09
import Derived.Test.YtpmkpckldnnigaaGreatPr23
import Derived.Test.YtpmkpckldnnigaaGreatPr04
import Derived.WalkKit
import Derived.WalkSpells
import Derived.WalkLawsBesides
import Derived.Deep.DeepCutAuto
import Derived.Deep.CutBlock
set_option linter.unusedVariables false
set_option linter.unusedSimpArgs false
set_option maxRecDepth 100000
set_option maxHeartbeats 40000000
namespace Go.Proofs.YtpmkpckldnnigaaGreat
open Go.RowKit
theorem run_cut_mid {P : Program} {t e : TypeId} {z : Value} {size bytes : Nat} (hE : qg4 P t e z size bytes) (A : Option Addr) (len cap lo hi : Nat) (h : lo ≤ hi) (h2 : hi ≤ cap) (W : World) :
    (Instr.slice t (.slice A len cap) (some (.int .i64 (lo : Int))) (some (.int .i64 (hi : Int))) none).run P W = .ok (.slice (if cap = lo then A else A.map (·.add (lo * size))) (hi - lo) (cap - lo)) W := by
  obtain ⟨ht, ⟨i, hi', _, hs, _⟩, _⟩ := hE; have hb : (0 : Int) ≤ (lo : Int) ∧ (lo : Int) ≤ (hi : Int) := omg; have hb2 : (0 : Int) ≤ (hi : Int) ∧ (hi : Int) ≤ (cap : Int) := omg; simp [Instr.slice, run_underlying ht, Instr.sliceBounds, Instr.sliceBound, hb, hb2, sizeOf, typeInfo, hi', asIntOf, hs]; rw [if_pos h2, if_pos h]
theorem mid_rb {w : World} {A : Option Addr} {n c k m : Nat} {l : List UInt8} (h : RB w A n l) (hk : k + m ≤ n) (hc : n ≤ c) : RB w (if c = k then A else A.map (·.add (k * 1))) m ((l.drop k).take m) :=
  (cut_rb h omg hc).less omg
theorem cut_ri {w : World} {A : Option Addr} {n c k : Nat} {l : List Int} (h : RI w A n l) (hk : k ≤ n) (hc : n ≤ c) : RI w (if c = k then A else A.map (·.add (k * 1))) (n - k) (l.drop k) := by
  refine ⟨by rw [List.length_drop, h.1], ?_⟩; have := h.2.cut hk hc; rw [Nat.mul_one]; exact this.congr fun i hi => by unfold qd5; simp [List.getD_eq_getElem?_getD]
def vk0 (bs : List UInt8) (k : Nat) : List Int := (List.range k).map fun k => qn4 bs (8 * k)
theorem numsK_split (bs : List UInt8) (n : Nat) : vk0 bs (n + 2) = qn4 bs 0 :: qn4 bs 8 :: qo5 bs n := by
  unfold vk0 qo5; rw [List.range_succ_eq_map, List.range_succ_eq_map]; simp only [List.map_cons, List.map_map, Nat.mul_zero]
  congr 2
  apply List.map_congr_left; intro k _
  show qn4 bs (8 * (k + 1 + 1)) = qn4 bs (16 + 8 * k)
  congr 1; omega
theorem lkblkS {α : Type} {enc : α → Value} {w : World} {base n c g : Nat} {t : TypeId} {l : List α} (h : Ow enc w base t (some ⟨g, 0, none⟩) n c l) : ∃ cs, Blk w g t cs := by
  rcases h.2.2 with ⟨hv, _⟩ | ⟨g', cap, cur, hv, _, hh, _⟩
  · injection hv with hv; cases hv
  · injection hv with hv; injection hv with hv; injection hv with hv _ _; subst hv; exact ⟨cur.toList, by unfold Blk; rw [hh]⟩
theorem refstateread_new (x : PA) (p : PV) (B : Option Addr) (m d : Nat) (bs : List UInt8) (w : World) (h : qc8 w x p) (hl : RB w B m bs) (hm : m ≤ d) (hd : d ≤ maxLen) :
    Calls Tryz.prog 71 #[.agg #[.slice x.A1 x.n1 x.c1, .slice x.A2 x.n2 x.c2, .int .i64 p.regs, .slice x.A3 x.n3 x.c3, .slice x.A4 x.n4 x.c4], .slice B m d] w (vf4 w (qn0 p bs)) := by
  have hmay := fun w h => qv2 x p w h
  have hlen := hl.1; have hn3 := h.r3.1; generalize hr : qn0 p bs = r; unfold qn0 at hr; have hMd : m ≤ 9223372036854775807 := by unfold maxLen at hd; omega
  cases hmb : mayB p with
  | false =>
    rw [if_pos hmb] at hr; rw [hmb] at hmay; subst hr; clear hmb hlen hn3; go_enter Tryz.func71, Tryz.ntmps71; go_wp2_with ((go_at_call 63; (with_reducible refine (hmay _ (h.below (b := w.heap.size) gwn nlr)).mono ?_); rintro e w1 ⟨rfl, hb1⟩); have hp1 := Blk.below (w' := w1) (g := w.heap.size) (t := 27) (cs := [.slice x.A1 x.n1 x.c1, .slice x.A2 x.n2 x.c2, .int .i64 p.regs, .slice x.A3 x.n3 x.c3, .slice x.A4 x.n4 x.c4]) blq hb1 szz; have hs1 := Blk.below (w' := w1) (g := w.heap.size + 1) (t := 32) (cs := [.int .i64 0, .int .i64 0, .slice none 0 0]) blq hb1 szz; obtain ⟨y10, y11, y12, y13, y14⟩ := blk5 hp1; obtain ⟨j10, j11, j12⟩ := blk3 hs1; have f10 := hs1.frozen 0; have f11 := hs1.frozen 1; have f12 := hs1.frozen 2; have sz1 := hs1.lt; have rs1 := hb1.size; replace hb1 := qa0 (a := w) (B := w.heap.size) gwn hb1 szz; have hb1s := hb1.size); refine bodyPost_ret (v := .tuple #[.agg #[.int .i64 0, .int .i64 0, .slice none 0 0], .int .i64 2]) (by simp [results, Tryz.results71, go_sem, j10, j11, j12]) rfl ?_; exact vf4.bad 2 rfl rfl gwn
  | true =>
    rw [if_neg (by simp [hmb])] at hr; rw [hmb] at hmay; have hn60 := (qe9.1 hmb).2.2.2.2.1; rw [hlen, hn3] at hr; rw [hn3] at hn60; have hn3' := hdd hn3; clear hmb hn3; rcases (show m < 8 * (2 + x.n3) ∨ 8 * (2 + x.n3) < m ∨ m = 8 * (2 + x.n3) by omega) with hc | hc | hc
    · rw [if_pos hc] at hr; subst hr; have hc' : (m : Int) < 8 * (x.n3 : Int) + 16 := omg; clear hlen; go_enter Tryz.func71, Tryz.ntmps71; go_wp2_with ((go_at_call 63; (with_reducible refine (hmay _ (h.below (b := w.heap.size) gwn nlr)).mono ?_); rintro e w1 ⟨rfl, hb1⟩); have hp1 := Blk.below (w' := w1) (g := w.heap.size) (t := 27) (cs := [.slice x.A1 x.n1 x.c1, .slice x.A2 x.n2 x.c2, .int .i64 p.regs, .slice x.A3 x.n3 x.c3, .slice x.A4 x.n4 x.c4]) blq hb1 szz; have hs1 := Blk.below (w' := w1) (g := w.heap.size + 1) (t := 32) (cs := [.int .i64 0, .int .i64 0, .slice none 0 0]) blq hb1 szz; obtain ⟨y10, y11, y12, y13, y14⟩ := blk5 hp1; obtain ⟨j10, j11, j12⟩ := blk3 hs1; have f10 := hs1.frozen 0; have f11 := hs1.frozen 1; have f12 := hs1.frozen 2; have sz1 := hs1.lt; have rs1 := hb1.size; replace hb1 := qa0 (a := w) (B := w.heap.size) gwn hb1 szz; have hb1s := hb1.size); refine bodyPost_ret (v := .tuple #[.agg #[.int .i64 0, .int .i64 0, .slice none 0 0], .int .i64 10]) (by simp [results, Tryz.results71, go_sem, j10, j11, j12]) rfl ?_; exact vf4.bad 10 rfl rfl gwn
    · rw [if_neg omg, if_pos hc] at hr; subst hr; have hc' : ¬ (m : Int) < 8 * (x.n3 : Int) + 16 := omg; have hc2 : 8 * (x.n3 : Int) + 16 < (m : Int) := omg; clear hlen; go_enter Tryz.func71, Tryz.ntmps71; go_wp2_with ((go_at_call 63; (with_reducible refine (hmay _ (h.below (b := w.heap.size) gwn nlr)).mono ?_); rintro e w1 ⟨rfl, hb1⟩); have hp1 := Blk.below (w' := w1) (g := w.heap.size) (t := 27) (cs := [.slice x.A1 x.n1 x.c1, .slice x.A2 x.n2 x.c2, .int .i64 p.regs, .slice x.A3 x.n3 x.c3, .slice x.A4 x.n4 x.c4]) blq hb1 szz; have hs1 := Blk.below (w' := w1) (g := w.heap.size + 1) (t := 32) (cs := [.int .i64 0, .int .i64 0, .slice none 0 0]) blq hb1 szz; obtain ⟨y10, y11, y12, y13, y14⟩ := blk5 hp1; obtain ⟨j10, j11, j12⟩ := blk3 hs1; have f10 := hs1.frozen 0; have f11 := hs1.frozen 1; have f12 := hs1.frozen 2; have sz1 := hs1.lt; have rs1 := hb1.size; replace hb1 := qa0 (a := w) (B := w.heap.size) gwn hb1 szz; have hb1s := hb1.size); refine bodyPost_ret (v := .tuple #[.agg #[.int .i64 0, .int .i64 0, .slice none 0 0], .int .i64 12]) (by simp [results, Tryz.results71, go_sem, j10, j11, j12]) rfl ?_; exact vf4.bad 12 rfl rfl gwn
    · rw [if_neg omg, if_neg omg] at hr; have hc' : ¬ (m : Int) < 8 * (x.n3 : Int) + 16 := omg; have hc2 : ¬ 8 * (x.n3 : Int) + 16 < (m : Int) := omg; have Hr := hdd hr; have hm8 : Hid (m = 8 * (x.n3 + 2)) := show m = 8 * (x.n3 + 2) by omega
      have hmle : m ≤ 8 * (x.n3 + 2) := omg; have hmge : 8 * (x.n3 + 2) ≤ m := omg; have hm' : m ≤ 1000 := omg; clear hr hlen hc; have hT : ∀ k, Hid (vk0 bs k ++ [qn4 bs (8 * k)] = vk0 bs (k + 1)) := fun k => by
        show _ = _
        unfold vk0; rw [List.range_succ, List.map_append]; rfl
      have hT0 : Hid (vk0 bs 0 = []) := rfl; have hsp : Hid (vk0 bs (x.n3 + 2) = qn4 bs 0 :: qn4 bs 8 :: qo5 bs x.n3) := numsK_split bs x.n3; have hsn : Hid (snapOf x.n3 bs = ⟨qn4 bs 0, qn4 bs 8, qo5 bs x.n3⟩) := rfl; go_enter Tryz.func71, Tryz.ntmps71; go_wp2_with ((go_at_call 63; (with_reducible refine (hmay _ (h.below (b := w.heap.size) gwn nlr)).mono ?_); rintro e w1 ⟨rfl, hb1⟩); have hp1 := Blk.below (w' := w1) (g := w.heap.size) (t := 27) (cs := [.slice x.A1 x.n1 x.c1, .slice x.A2 x.n2 x.c2, .int .i64 p.regs, .slice x.A3 x.n3 x.c3, .slice x.A4 x.n4 x.c4]) blq hb1 szz; have hs1 := Blk.below (w' := w1) (g := w.heap.size + 1) (t := 32) (cs := [.int .i64 0, .int .i64 0, .slice none 0 0]) blq hb1 szz; obtain ⟨y10, y11, y12, y13, y14⟩ := blk5 hp1; obtain ⟨j10, j11, j12⟩ := blk3 hs1; have f10 := hs1.frozen 0; have f11 := hs1.frozen 1; have f12 := hs1.frozen 2; have sz1 := hs1.lt; have rs1 := hb1.size; replace hb1 := qa0 (a := w) (B := w.heap.size) gwn hb1 szz; have hb1s := hb1.size); go_loopw [6, 7] (fun v i wr => ∃ (k : Nat) (A3 : Option Addr) (c3 : Nat), k ≤ x.n3 + 2 ∧ i = .int .i64 ((8 * k : Nat) : Int) ∧ v = .slice A3 k c3 ∧ Ow iv wr w.heap.size 3 A3 k c3 (vk0 bs k) ∧ Blk wr w.heap.size 27 [.slice x.A1 x.n1 x.c1, .slice x.A2 x.n2 x.c2, .int .i64 p.regs, .slice x.A3 x.n3 x.c3, .slice x.A4 x.n4 x.c4] ∧ Blk wr (w.heap.size + 1) 32 [.int .i64 0, .int .i64 0, .slice none 0 0] ∧ Below w.heap.size w wr) (fun _ i _ => m - (intOf i).toNat)
      case atStart => exact ⟨0, none, 0, omg, rfl, rfl, by rw [hT0.out]; exact Ow.nil _ _ _ _, hp1, hs1, hb1⟩
      case round =>
        clear hp1 hs1 hb1 hb1s y10 y11 y12 y13 y14 j10 j11 j12 f10 f11 f12 sz1 rs1; obtain ⟨k, A3, c3, hk, rfl, rfl, hown, hp, hs, hbel⟩ := hrel; have hbs := hbel.size
        by_cases hlt : k < x.n3 + 2
        · have hlt' : ((8 * k : Nat) : Int) < (m : Int) := omg; have hcut := run_cut_mid (P := Tryz.prog) qb4 B m d (8 * k) (8 * k + 8) omg omg; have hrb := mid_rb (hl.below hbel nlr) (k := 8 * k) (m := 8) omg hm; rw [show 8 * k + 8 - 8 * k = 8 by omega] at hcut; have hget := fun (w : World) (A : Option Addr) hl => qv3 A (d - 8 * k) ((bs.drop (8 * k)).take 8) w hl
          have hnum : Hid (sg (getL ((bs.drop (8 * k)).take 8)) = qn4 bs (8 * k)) := rfl; rw [hnum.out] at hget; have hTk := hT k; generalize (if d = 8 * k then B else B.map (·.add (8 * k * 1))) = B' at *; generalize qn4 bs (8 * k) = v at *; clear hT hT0 hnum hsp; have hcast : ((8 * k + 8 : Nat) : Int) = ((8 * k : Nat) : Int) + 8 := omg; rw [hcast] at hcut; obtain ⟨i, hi⟩ : ∃ i : Nat, 8 * k = i := ⟨_, rfl⟩; have Hi := hdd hi; rw [hi] at hcut hlt' hget hrb; rw [hi]; have hi1000 : i ≤ 1000 := omg; clear hi hcast; go_wp2_with (first | ((go_at_call 152; (with_reducible refine (hget _ _ hrb).mono ?_); rintro e w5 ⟨rfl, hb5⟩); have own5 := hown.below hb5 nlr; have hp5 := hp.below (w' := w5) hb5 hp.lt; have hs5 := hs.below (w' := w5) hb5 hs.lt; replace hb5 := qa0 (a := w) (B := w.heap.size) gwn hb5 szz; have hb5s := hb5.size) | (at_builtin; refine qa6 rfl rfl qk5 qr8 (s := .tmp 48) (N := k + 1) (L := vk0 bs (k + 1)) rfl (own5.below (b := w5.heap.size) gwn nlr) rfl (k := [v]) (Rd.of_block (l := [v]) (qb7 _ _ smp) rfl) rfl hTk.out uml omg szz ?_; intro A6 c6 w6 own6 hg6 hat6 hb6; have hp6 : Blk w6 w.heap.size 27 [.slice x.A1 x.n1 x.c1, .slice x.A2 x.n2 x.c2, .int .i64 p.regs, .slice x.A3 x.n3 x.c3, .slice x.A4 x.n4 x.c4] := Blk.grown blq hg6 (own5.ne_ hp5 dcd); have hs6 : Blk w6 (w.heap.size + 1) 32 [.int .i64 0, .int .i64 0, .slice none 0 0] := Blk.grown blq hg6 (own5.ne_ hs5 dcd); replace hb6 := qa0 (a := w) (B := w.heap.size) gwn hb6 szz; have hb6s := hb6.size)); go_roundw
          case rel => exact ⟨k + 1, A6, c6, omg, by rw [show 8 * (k + 1) = i + 8 by have := Hi.out; omega]; go_num, rfl, own6, hp6, hs6, hb6⟩
          case measure => simp [intOf]; omega
        · have hkn : k = x.n3 + 2 := omg; subst hkn; have hge : (m : Int) ≤ ((8 * (x.n3 + 2) : Nat) : Int) := omg; have hcp := hown.cap; obtain ⟨g, rfl, hgb, hgl⟩ := hown.addr omg; have hri := hown.rd.ri; rw [hsp.out] at hri hown; have fin : ∀ W, Ow iv W w.heap.size 3 (some ⟨g, 0, none⟩) (x.n3 + 2) c3 (qn4 bs 0 :: qn4 bs 8 :: qo5 bs x.n3) → RI W (if c3 = 2 then some ⟨g, 0, none⟩ else (some ⟨g, 0, none⟩ : Option Addr).map (·.add (2 * 1))) x.n3 (qo5 bs x.n3) := fun W ho => by
            have := cut_ri ho.rd.ri (k := 2) omg hcp.1; rw [show x.n3 + 2 - 2 = x.n3 by omega] at this; exact this
          have k0 : wr.cell? ⟨g, 0, none⟩ = some (.int .i64 (qn4 bs 0)) := by obtain ⟨b, o, e, _, hc⟩ := hri.at_ (k := 0) omg; injection e with e; injection e with e1 e2 _; subst e1 e2; exact hc
          have k1 : wr.cell? ⟨g, 1, none⟩ = some (.int .i64 (qn4 bs 8)) := by obtain ⟨b, o, e, _, hc⟩ := hri.at_ (k := 1) omg; injection e with e; injection e with e1 e2 _; subst e1 e2; exact hc
          have hri2 := cut_ri hri (k := 2) omg hcp.1; have hcut : ∀ W, (Instr.slice 23 (.slice (some ⟨g, 0, none⟩) (x.n3 + 2) c3) (some (.int .i64 2)) none none).run Tryz.prog W = .ok (.slice (if c3 = 2 then some ⟨g, 0, none⟩ else (some ⟨g, 0, none⟩ : Option Addr).map (·.add (2 * 1))) (x.n3 + 2 - 2) (c3 - 2)) W := fun W => qi5 (P := Tryz.prog) qk5 (some ⟨g, 0, none⟩) (x.n3 + 2) c3 2 omg W
          rw [show x.n3 + 2 - 2 = x.n3 by omega] at hcut hri2; have ha4 : ∀ b, (if c3 = 2 then some ⟨g, 0, none⟩ else (some ⟨g, 0, none⟩ : Option Addr).map (·.add (2 * 1))).map (·.block) = some b → b = g := fun b e => by
            split at e
            · simp only [Option.map_some, Option.some.injEq] at e; exact e.symm
            · simp only [Option.map_some, Option.some.injEq] at e; rw [← e]; unfold Addr.add; split <;> rfl
          have HA4 := hdd ha4; clear ha4; generalize (if c3 = 2 then some ⟨g, 0, none⟩ else (some ⟨g, 0, none⟩ : Option Addr).map (·.add (2 * 1))) = A4 at *; have hri3 : RI wr A4 x.n3 (qo5 bs x.n3) := hri2; rw [hsn.out] at Hr; clear hT hT0 hri hri2 hsp hsn; generalize qn4 bs 0 = T at *; generalize qn4 bs 8 = Hh at *; generalize qo5 bs x.n3 = CC at *; have Hr2 : Hid ((if ql1 p ⟨T, Hh, CC⟩ = true then ((⟨T, Hh, CC⟩ : SV), 0) else (qn8, 11)) = r) := Hr; clear Hr; have i0 : (0 : Int) < (x.n3 : Int) + 2 := omg; have i1 : (1 : Int) < (x.n3 : Int) + 2 := omg; have i2 : (2 : Int) ≤ (x.n3 : Int) + 2 := omg; have hfit := fun w h k' => qs9 x p T Hh A4 x.n3 (c3 - 2) CC w h k' uml
          obtain ⟨yw0, yw1, yw2, yw3, yw4⟩ := blk5 hp; obtain ⟨jw0, jw1, jw2⟩ := blk3 hs; have zp := hp.lt; have zs := hs.lt; go_wp2; go_region_held3 (fun w' => w'.cell? ⟨g, 0, none⟩ = some (.int .i64 T) ∧ w'.cell? ⟨g, 1, none⟩ = some (.int .i64 Hh)) (go_keep) (fail); generalize ql1 p ⟨T, Hh, CC⟩ = fb at *
          cases fb with
          | true =>
            have hr2 : Hid (r = (⟨T, Hh, CC⟩, 0)) := by show r = _; rw [← Hr2.out]; rfl
            clear Hr2; go_wp2_with ((go_at_call 72; (with_reducible refine (hfit _ (h.below (b := w.heap.size) gwn nlr) (hri3.below (B := wr.heap.size) gwn nlr)).mono ?_); rintro e w7 ⟨rfl, hb7⟩); have hbW : Below wr.heap.size wr w7 := qa0 (a := wr) (B := wr.heap.size) gwn hb7 szz; have hn7 := Blk.below (w' := w7) (g := wr.heap.size) (t := 32) (cs := [.int .i64 T, .int .i64 Hh, .slice A4 x.n3 (c3 - 2)]) blq hb7 szz; obtain ⟨v70, v71, v72⟩ := blk3 hn7; have hs7 := hs.below (w' := w7) hbW zs; have own7 := hown.below (w' := w7) hbW nlr; obtain ⟨u70, u71, u72⟩ := blk3 hs7; have f70 := hs7.frozen 0; have f71 := hs7.frozen 1; have f72 := hs7.frozen 2; have zz7 := hs7.lt; replace hb7 := qa0 (a := w) (B := w.heap.size) gwn hb7 szz; have hb7s := hb7.size); refine bodyPost_ret (v := .tuple #[.agg #[.int .i64 T, .int .i64 Hh, .slice A4 x.n3 (c3 - 2)], .int .i64 0]) (by simp [results, Tryz.results71, go_sem, u70, u71, u72]) rfl ?_; have own9 := ((own7.setFar hs7 dcd 0 (.int .i64 T)).setFar (hs7.set_ 0 (.int .i64 T)) dcd 1 (.int .i64 Hh)).setFar ((hs7.set_ 0 (.int .i64 T)).set_ 1 (.int .i64 Hh)) dcd 2 (.slice A4 x.n3 (c3 - 2)); exact ⟨A4, x.n3, c3 - 2, by rw [hr2.out]; rfl, by rw [hr2.out]; exact fin _ own9, omg, by omega, fun b e => by obtain rfl := HA4.out b e; exact ⟨hgb, lkblkS own9⟩, gwn⟩
          | false =>
            have hr2 : Hid (r = (qn8, 11)) := by show r = _; rw [← Hr2.out]; rfl
            clear Hr2; go_wp2_with ((go_at_call 72; (with_reducible refine (hfit _ (h.below (b := w.heap.size) gwn nlr) (hri3.below (B := wr.heap.size) gwn nlr)).mono ?_); rintro e w7 ⟨rfl, hb7⟩); have hbW : Below wr.heap.size wr w7 := qa0 (a := wr) (B := wr.heap.size) gwn hb7 szz; have hn7 := Blk.below (w' := w7) (g := wr.heap.size) (t := 32) (cs := [.int .i64 T, .int .i64 Hh, .slice A4 x.n3 (c3 - 2)]) blq hb7 szz; obtain ⟨v70, v71, v72⟩ := blk3 hn7; have hs7 := hs.below (w' := w7) hbW zs; have own7 := hown.below (w' := w7) hbW nlr; obtain ⟨u70, u71, u72⟩ := blk3 hs7; have f70 := hs7.frozen 0; have f71 := hs7.frozen 1; have f72 := hs7.frozen 2; have zz7 := hs7.lt; replace hb7 := qa0 (a := w) (B := w.heap.size) gwn hb7 szz; have hb7s := hb7.size); refine bodyPost_ret (v := .tuple #[.agg #[.int .i64 0, .int .i64 0, .slice none 0 0], .int .i64 11]) (by simp [results, Tryz.results71, go_sem, u70, u71, u72]) rfl ?_; exact vf4.bad 11 (by rw [hr2.out]) (by rw [hr2.out]; rfl) gwn
def bo (b : Bool) : Value := .bool b
def lkC (x : PA) (p : PV) (K : Option Addr) (nk ck : Nat) (O : Option Addr) (no co : Nat) (past : Int) (bad : Bool) : List Value :=
  [.slice x.A1 x.n1 x.c1, .slice x.A2 x.n2 x.c2, .int .i64 p.regs, .slice x.A3 x.n3 x.c3, .slice x.A4 x.n4 x.c4, .slice K nk ck, .slice O no co, .int .i64 past, .bool bad]
def LkAt (w : World) (base g : Nat) (x : PA) (p : PV) (s : LkV) : Prop :=
  ∃ K nk ck O no co, Blk w g 220 (lkC x p K nk ck O no co s.past s.bad) ∧ base ≤ g ∧ Ow iv w base 3 K nk ck s.kinds ∧ Ow bo w base 4 O no co s.outs
theorem lkblk {α : Type} {enc : α → Value} {w : World} {base n c g : Nat} {t : TypeId} {A : Option Addr} {l : List α} (h : Ow enc w base t A n c l) (hg : A.map (·.block) = some g) : ∃ cs, Blk w g t cs := by
  rcases h.2.2 with ⟨hv, _⟩ | ⟨g', cap, cur, hv, _, hh, _⟩
  · injection hv with hv; subst hv; cases hg
  · injection hv with hv; subst hv; simp only [Option.map_some, Option.some.injEq] at hg; subst hg; exact ⟨cur.toList, by unfold Blk; rw [hh]⟩
section
variable {w w' : World} {base g : Nat} {x : PA} {p : PV} {s : LkV}
def lkMut : List TypeId := [220, 3, 4]
def Stay (w w' : World) : Prop := ∀ g t cs, t ∉ lkMut → Blk w g t cs → Blk w' g t cs
theorem Stay.refl (w : World) : Stay w w := fun _ _ _ _ h => h
theorem Stay.trans {w1 w2 w3 : World} (h : Stay w1 w2) (k : Stay w2 w3) : Stay w1 w3 := fun g t cs ht hb => k g t cs ht (h g t cs ht hb)
theorem Stay.set {g : Nat} {t : TypeId} {cs : List Value} (hb : Blk w g t cs) (ht : t ∈ lkMut) (i : Nat) (u : Value) : Stay w (w.setCell ⟨g, i, none⟩ u) := fun g' t' cs' ht' hb' => hb'.far (p := ⟨g, i, none⟩) (fun e => hb'.ne_ hb (fun e' => ht' (by rw [e']; exact ht)) e) _
theorem Stay.of_below (hb : Below w.heap.size w w') : Stay w w' := fun g t cs _ h => h.below hb h.lt
def qh9 (w : World) (base g : Nat) (x : PA) (p : PV) (s' : LkV) (v : Option Int) (e : Ending) (w' : World) : Prop :=
  e = .returned (match v with | none => .tuple #[] | some n => .int .i64 n) ∧ LkAt w' base g x p s' ∧ Below base w w' ∧ Stay w w'
theorem qd8 (h : LkAt w base g x p s) (b : Bool) : Calls Tryz.prog 248 #[.pointer (some ⟨g, 0, none⟩), .bool b] w (qh9 w base g x p (qg2 s b) none) := by
  obtain ⟨K, nk, ck, O, no, co, hb, hg, hk, ho⟩ := h; have c8 : w.cell? ⟨g, 8, none⟩ = some (.bool s.bad) := hb.cell 8; have f8 := hb.frozen 8; have hl := hb.lt; have HB := hdd hb; have HK := hdd hk; have HO := hdd ho; clear hb hk ho
  cases hs : s.bad with
  | true =>
    rw [hs] at c8; go_enter Tryz.func248, Tryz.ntmps248; go_wp2; go_end0; refine ⟨rfl, ⟨K, nk, ck, O, no, co, ?_, hg, HK.out.setFar HB.out dcd 8 _, HO.out.setFar HB.out dcd 8 _⟩, (Below.refl _ _).setCell hg _, Stay.set HB.out dcd _ _⟩; have := HB.out.set_ 8 (.bool true); simpa [lkC, qg2, hs] using this
  | false =>
    rw [hs] at c8; go_enter Tryz.func248, Tryz.ntmps248; go_wp2; go_end0; refine ⟨rfl, ⟨K, nk, ck, O, no, co, ?_, hg, HK.out.setFar HB.out dcd 8 _, HO.out.setFar HB.out dcd 8 _⟩, (Below.refl _ _).setCell hg _, Stay.set HB.out dcd _ _⟩; have := HB.out.set_ 8 (.bool (!b)); simpa [lkC, qg2, hs] using this
theorem qd9 (h : LkAt w base g x p s) (n : Int) : Calls Tryz.prog 249 #[.pointer (some ⟨g, 0, none⟩), .int .i64 n] w (qh9 w base g x p (qe4 s n).1 (some (qe4 s n).2)) := by
  obtain ⟨K, nk, ck, O, no, co, hb, hg, hk, ho⟩ := h; have c5 : w.cell? ⟨g, 5, none⟩ = some (.slice K nk ck) := hb.cell 5; have c8 : w.cell? ⟨g, 8, none⟩ = some (.bool s.bad) := hb.cell 8; have f8 := hb.frozen 8; have hl := hb.lt; have hkl : s.kinds.length = nk := hk.1; have HB := hdd hb; have HK := hdd hk; have HO := hdd ho; have HKL := hdd hkl; have hbad : ∀ W, W = w.setCell ⟨g, 8, none⟩ (.bool true) → qh9 w base g x p { s with bad := true } (some 0) (.returned (.int .i64 0)) W := fun W e => by
    subst e; refine ⟨rfl, ⟨K, nk, ck, O, no, co, ?_, hg, HK.out.setFar HB.out dcd 8 _, HO.out.setFar HB.out dcd 8 _⟩, (Below.refl _ _).setCell hg _, Stay.set HB.out dcd _ _⟩; have := HB.out.set_ 8 (.bool true); simpa [lkC] using this
  have HBAD := hdd hbad; unfold qe4; rw [hkl]; clear hb hk ho hbad hkl
  by_cases h1 : n < 0
  · rw [if_pos (.inl h1)]; go_enter Tryz.func249, Tryz.ntmps249; go_wp2; go_ret; exact HBAD.out _ rfl
  by_cases h2 : (nk : Int) ≤ n
  · rw [if_pos (.inr (.inl h2))]; go_enter Tryz.func249, Tryz.ntmps249; go_wp2; go_ret; exact HBAD.out _ rfl
  obtain ⟨m, rfl⟩ : ∃ m : Nat, n = m := ⟨n.toNat, omg⟩; have hm : m < nk := omg; obtain ⟨b1, o1, hK, hb1, hc⟩ := HK.out.rd.2.at_ hm; have hml : m < s.kinds.length := by rw [HKL.out]; exact hm
  rw [qo0 s.kinds m hml] at hc; have hka : kAt s.kinds (m : Int) = s.kinds[m] := by
    unfold kAt; rw [if_neg omg, Int.toNat_natCast, List.getD_eq_getElem?_getD, List.getElem?_eq_getElem hml]; rfl
  rw [hka]; generalize s.kinds[m] = kk at *; have hcc : w.cell? ⟨b1, o1 + m, none⟩ = some (.int .i64 kk) := hc; clear hc hka hml; have SK := hdd hK
  by_cases h3 : kk = 0
  · subst h3; rw [if_pos (.inr (.inr rfl))]; subst hK; go_enter Tryz.func249, Tryz.ntmps249; go_wp2; go_ret; exact HBAD.out _ rfl
  · have hne : (kk == 0) = false := by rw [beq_eq_false_iff_ne]; exact h3
    rw [if_neg omg]; clear h3; subst hK; go_enter Tryz.func249, Tryz.ntmps249; go_wp2; go_ret; exact ⟨rfl, ⟨_, nk, ck, O, no, co, HB.out, hg, HK.out, HO.out⟩, Below.refl _ _, Stay.refl _⟩
theorem qe0 (h : LkAt w base g x p s) (n kind : Int) : Calls Tryz.prog 247 #[.pointer (some ⟨g, 0, none⟩), .int .i64 n, .int .i64 kind] w (qh9 w base g x p (ql3 s n kind) none) := by
  obtain ⟨K, nk, ck, O, no, co, hb, hg, hk, ho⟩ := h; have c5 : w.cell? ⟨g, 5, none⟩ = some (.slice K nk ck) := hb.cell 5; have c8 : w.cell? ⟨g, 8, none⟩ = some (.bool s.bad) := hb.cell 8; have f8 := hb.frozen 8; have hl := hb.lt; have hkl : s.kinds.length = nk := hk.1; have HB := hdd hb; have HK := hdd hk; have HO := hdd ho; have HKL := hdd hkl; have hbad : ∀ W, W = w.setCell ⟨g, 8, none⟩ (.bool true) → qh9 w base g x p { s with bad := true } none (.returned (.tuple #[])) W := fun W e => by
    subst e; refine ⟨rfl, ⟨K, nk, ck, O, no, co, ?_, hg, HK.out.setFar HB.out dcd 8 _, HO.out.setFar HB.out dcd 8 _⟩, (Below.refl _ _).setCell hg _, Stay.set HB.out dcd _ _⟩; have := HB.out.set_ 8 (.bool true); simpa [lkC] using this
  have HBAD := hdd hbad; unfold ql3; rw [hkl]; clear hb hk ho hbad hkl
  by_cases h1 : n < 0
  · rw [if_pos (.inl h1)]; go_enter Tryz.func247, Tryz.ntmps247; go_wp2; go_end0; exact HBAD.out _ rfl
  by_cases h2 : (nk : Int) ≤ n
  · rw [if_pos (.inr (.inl h2))]; go_enter Tryz.func247, Tryz.ntmps247; go_wp2; go_end0; exact HBAD.out _ rfl
  obtain ⟨m, rfl⟩ : ∃ m : Nat, n = m := ⟨n.toNat, omg⟩; have hm : m < nk := omg; obtain ⟨gk, hK, hgk, hgl⟩ := HK.out.addr omg; obtain ⟨b1, o1, hK1, hb1, hc⟩ := HK.out.rd.2.at_ hm; rw [hK] at hK1; injection hK1 with hK1; injection hK1 with q1 q2 _; subst q1 q2; have hml : m < s.kinds.length := by rw [HKL.out]; exact hm
  rw [qo0 s.kinds m hml, Nat.zero_add] at hc; have hka : kAt s.kinds (m : Int) = s.kinds[m] := by
    unfold kAt; rw [if_neg omg, Int.toNat_natCast, List.getD_eq_getElem?_getD, List.getElem?_eq_getElem hml]; rfl
  rw [hka]; generalize s.kinds[m] = kk at *; have hcc : w.cell? ⟨gk, m, none⟩ = some (.int .i64 kk) := hc; have fm := (show Ow iv w base 3 (some ⟨gk, 0, none⟩) nk ck s.kinds from hK ▸ HK.out).free m; have hne9 : gk ≠ g := fun e => by
    subst e; obtain ⟨cs, hbk⟩ := lkblk (g := gk) HK.out (by rw [hK]; rfl); exact hbk.ne_ HB.out dcd rfl
  clear hc hka hml
  by_cases h3 : kk = 0
  · subst h3; rw [if_neg omg]; subst hK; go_enter Tryz.func247, Tryz.ntmps247; go_wp2; go_end0; obtain ⟨cs, hbk⟩ := lkblk (g := gk) HK.out rfl; exact ⟨rfl, ⟨_, nk, ck, O, no, co, HB.out.far (p := ⟨gk, m, none⟩) (fun e => hne9 e.symm) _, hg, HK.out.set m kind _ rfl, HO.out.setFar hbk dcd m _⟩, (Below.refl _ _).setCell hgk _, Stay.set hbk dcd _ _⟩
  · have hne : (kk != 0) = true := by rw [bne_iff_ne]; exact h3
    rw [if_pos (.inr (.inr h3))]; clear h3; subst hK; go_enter Tryz.func247, Tryz.ntmps247; go_wp2; go_end0; exact HBAD.out _ rfl
theorem lkone_any (h : LkAt w base g x p s) (L : Option Addr) (nl cl : Nat) (l : List Int) (hL : RI w L nl l) (n : Int) : Calls Tryz.prog 251 #[.pointer (some ⟨g, 0, none⟩), .slice L nl cl, .int .i64 n] w (qh9 w base g x p (oneV s l n).1 (some (oneV s l n).2)) := by
  have hLK := h; obtain ⟨K, nk, ck, O, no, co, hb, hg, hk, ho⟩ := h; have c8 : w.cell? ⟨g, 8, none⟩ = some (.bool s.bad) := hb.cell 8; have f8 := hb.frozen 8; have hl := hb.lt; have hll := hL.1; have HB := hdd hb; have HK := hdd hk; have HO := hdd ho; have HLK := hdd hLK; have hbad : ∀ W, W = w.setCell ⟨g, 8, none⟩ (.bool true) → qh9 w base g x p { s with bad := true } (some 0) (.returned (.int .i64 0)) W := fun W e => by
    subst e; refine ⟨rfl, ⟨K, nk, ck, O, no, co, ?_, hg, HK.out.setFar HB.out dcd 8 _, HO.out.setFar HB.out dcd 8 _⟩, (Below.refl _ _).setCell hg _, Stay.set HB.out dcd _ _⟩; have := HB.out.set_ 8 (.bool true); simpa [lkC] using this
  have HBAD := hdd hbad; unfold oneV; rw [hll]; clear hb hk ho hbad hLK
  by_cases h1 : n < 0
  · rw [if_pos (.inl h1)]; go_enter Tryz.func251, Tryz.ntmps251; go_wp2; go_ret; exact HBAD.out _ rfl
  by_cases h2 : (nl : Int) ≤ n
  · rw [if_pos (.inr h2)]; go_enter Tryz.func251, Tryz.ntmps251; go_wp2; go_ret; exact HBAD.out _ rfl
  rw [if_neg omg]; obtain ⟨m, rfl⟩ : ∃ m : Nat, n = m := ⟨n.toNat, omg⟩; obtain ⟨b1, o1, hL1, hb1, hc⟩ := hL.at_ (k := m) omg; have hka : kAt l (m : Int) = qd5 l m := by
    unfold kAt qd5; rw [if_neg omg, Int.toNat_natCast]
  rw [hka]; subst hL1; go_enter Tryz.func251, Tryz.ntmps251; go_wp2; go_ret; exact ⟨rfl, HLK.out, Below.refl _ _, Stay.refl _⟩
theorem vi0 (h : LkAt w base g x p s) (hp : qc8 w x p) (n : Int) : Calls Tryz.prog 250 #[.pointer (some ⟨g, 0, none⟩), .int .i64 n] w (qh9 w base g x p (cellV p s n).1 (some (cellV p s n).2)) := by
  have hLK := h; obtain ⟨K, nk, ck, O, no, co, hb, hg, hk, ho⟩ := h; have c3 : w.cell? ⟨g, 3, none⟩ = some (.slice x.A3 x.n3 x.c3) := hb.cell 3; have c8 : w.cell? ⟨g, 8, none⟩ = some (.bool s.bad) := hb.cell 8; have f8 := hb.frozen 8; have hl := hb.lt; have hll := hp.r3.1; have HB := hdd hb; have HK := hdd hk; have HO := hdd ho; have HLK := hdd hLK; have HP := hdd hp; have hbad : ∀ W, W = w.setCell ⟨g, 8, none⟩ (.bool true) → qh9 w base g x p { s with bad := true } (some 0) (.returned (.int .i64 0)) W := fun W e => by
    subst e; refine ⟨rfl, ⟨K, nk, ck, O, no, co, ?_, hg, HK.out.setFar HB.out dcd 8 _, HO.out.setFar HB.out dcd 8 _⟩, (Below.refl _ _).setCell hg _, Stay.set HB.out dcd _ _⟩; have := HB.out.set_ 8 (.bool true); simpa [lkC] using this
  have HBAD := hdd hbad; unfold cellV; rw [hll]; clear hb hk ho hbad hLK hp
  by_cases h1 : n < 0
  · rw [if_pos (.inl h1)]; go_enter Tryz.func250, Tryz.ntmps250; go_wp2; go_ret; exact HBAD.out _ rfl
  by_cases h2 : (x.n3 : Int) ≤ n
  · rw [if_pos (.inr h2)]; go_enter Tryz.func250, Tryz.ntmps250; go_wp2; go_ret; exact HBAD.out _ rfl
  rw [if_neg omg]; obtain ⟨m, rfl⟩ : ∃ m : Nat, n = m := ⟨n.toNat, omg⟩; obtain ⟨b, o, y, hA, hbl, hx, hc⟩ := HP.out.r3.at_ qj2 omg (show m < x.n3 by omega); have h0 : w.cell? ⟨b, o + m * 2, none⟩ = some (.int .i64 y.1) := hc 0 omg; rw [Int.toNat_natCast, qk9 hx]; rw [hA] at c3; clear hc hx; go_enter Tryz.func250, Tryz.ntmps250; go_wp2; go_ret; exact ⟨rfl, HLK.out, Below.refl _ _, Stay.refl _⟩
end
def sgn3 (op : Int) : Int × Int × Bool := if qo3 op then (qn1 op, qj0 op, true) else (0, 0, false)
theorem vg8 (op : Int) : (op = 5 ∨ op = 6 ∨ op = 7 ∨ op = 8 ∨ op = 9 ∨ op = 10 ∨ op = 11 ∨ op = 12 ∨ op = 13 ∨ op = 14 ∨ op = 15 ∨ op = 16 ∨ op = 17 ∨ op = 18 ∨ op = 19 ∨ op = 20) ∨ (op < 5 ∨ 20 < op) := omg
theorem sgn3_no {op : Int} (h : op < 5 ∨ 20 < op) : sgn3 op = (0, 0, false) := by
  unfold sgn3 qo3; rw [decide_eq_false omg]; rfl
theorem qp2 (op : Int) (w : World) : Calls Tryz.prog 245 #[.int .i64 op] w fun e w' => e = .returned (.tuple #[.int .i64 (sgn3 op).1, .int .i64 (sgn3 op).2.1, .bool (sgn3 op).2.2]) ∧ w = w' := by
  rcases vg8 op with h | h
  · rcases h with rfl | rfl | rfl | rfl | rfl | rfl | rfl | rfl | rfl | rfl | rfl | rfl | rfl | rfl | rfl | rfl
    all_goals
      go_enter Tryz.func245, Tryz.ntmps245; go_wp2; go_ret3; exact ⟨rfl, rfl⟩
  · rw [sgn3_no h]; have b5 : (op == 5) = false := by rw [beq_eq_false_iff_ne]; omega
    have b6 : (op == 6) = false := by rw [beq_eq_false_iff_ne]; omega
    have b7 : (op == 7) = false := by rw [beq_eq_false_iff_ne]; omega
    have b8 : (op == 8) = false := by rw [beq_eq_false_iff_ne]; omega
    have b9 : (op == 9) = false := by rw [beq_eq_false_iff_ne]; omega
    have b10 : (op == 10) = false := by rw [beq_eq_false_iff_ne]; omega
    have b11 : (op == 11) = false := by rw [beq_eq_false_iff_ne]; omega
    have b12 : (op == 12) = false := by rw [beq_eq_false_iff_ne]; omega
    have b13 : (op == 13) = false := by rw [beq_eq_false_iff_ne]; omega
    have b14 : (op == 14) = false := by rw [beq_eq_false_iff_ne]; omega
    have b15 : (op == 15) = false := by rw [beq_eq_false_iff_ne]; omega
    have b16 : (op == 16) = false := by rw [beq_eq_false_iff_ne]; omega
    have b17 : (op == 17) = false := by rw [beq_eq_false_iff_ne]; omega
    have b18 : (op == 18) = false := by rw [beq_eq_false_iff_ne]; omega
    have b19 : (op == 19) = false := by rw [beq_eq_false_iff_ne]; omega
    have b20 : (op == 20) = false := by rw [beq_eq_false_iff_ne]; omega
    clear h; go_enter Tryz.func245, Tryz.ntmps245; go_wp2; go_ret3; exact ⟨rfl, rfl⟩
theorem rsign_any (op : Int) (w : World) : Calls Tryz.prog 143 #[.int .i64 op] w fun e w' => e = .returned (.tuple #[.int .i64 (sgn3 op).1, .int .i64 (sgn3 op).2.1, .bool (sgn3 op).2.2]) ∧ Below w.heap.size w w' := by
  rcases vg8 op with h | h
  · rcases h with rfl | rfl | rfl | rfl | rfl | rfl | rfl | rfl | rfl | rfl | rfl | rfl | rfl | rfl | rfl | rfl
    all_goals
      go_enter Tryz.func143, Tryz.ntmps143; go_upto_region 5 with fail; go_region; go_wp2; go_ret3; exact ⟨rfl, gwn⟩
  · rw [sgn3_no h]
    by_cases h5 : op < 5
    · clear h; go_enter Tryz.func143, Tryz.ntmps143; go_wp2; go_ret3; exact ⟨rfl, Below.refl _ _⟩
    · have h20 : 20 < op := omg; clear h; go_enter Tryz.func143, Tryz.ntmps143; go_wp2; go_ret3; exact ⟨rfl, Below.refl _ _⟩
end Go.Proofs.YtpmkpckldnnigaaGreat
