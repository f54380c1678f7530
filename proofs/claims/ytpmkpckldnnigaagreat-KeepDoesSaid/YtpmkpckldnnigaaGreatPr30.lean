/- Parts: RDiskG. -/
import Derived.Test.YtpmkpckldnnigaaGreatPr02
import Derived.Test.YtpmkpckldnnigaaGreatPr29
import Derived.Deep.DeepCutAuto
set_option linter.unusedVariables false
set_option linter.unusedSimpArgs false
set_option maxRecDepth 100000
set_option maxHeartbeats 40000000
namespace Go.Proofs.YtpmkpckldnnigaaGreat
open Go.RowKit
theorem take_secOf (l : List UInt8) (k : Nat) : l.take (k * 128) ++ qc7 l (k : Int) = l.take ((k + 1) * 128) := by
  unfold qc7; rw [Int.toNat_natCast, show (k + 1) * 128 = k * 128 + 128 by omega, List.take_add]
section
variable {w w' : World} {base : Nat} {q : qf0} {A : Option Addr} {c ck ci : Nat} {D : qa3}
theorem rimage_any (h : qc0 w base q A c ck ci D) : Calls Tryz.prog 28 #[.pointer (some ⟨q.d, 0, none⟩)] w fun e w' => ∃ B N d, e = .returned (.slice B N d) ∧ OB w' w.heap.size 5 B N d D.kept ∧ Below w.heap.size w w' := by
  have hm1 := h.ok.many1; have hlen := h.ok.kept; have HH := hdd h; obtain ⟨c0, c1, c2, c3, c4, c5, c6⟩ := h.cells; have lqd := h.st.lt; clear h c1 c2 c3 c4 c5 c6; go_enter Tryz.func28, Tryz.ntmps28; go_wp2; go_loopw [3, 4] (fun v i wr => ∃ (k : Nat) (B : Option Addr) (d : Nat), k ≤ D.many ∧ i = .int .i64 (k : Nat) ∧ v = .slice B (k * 128) d ∧ Ow bv wr w.heap.size 5 B (k * 128) d (D.kept.take (k * 128)) ∧ Below w.heap.size w wr) (fun _ i _ => D.many - (intOf i).toNat)
  case atStart => exact ⟨0, none, 0, omg, rfl, rfl, Ow.nil _ _ _ _, Below.refl _ _⟩
  case round =>
    obtain ⟨k, B, d, hk, rfl, rfl, hown, hbel⟩ := hrel; have hbs := hbel.size; have hr := HH.out.below hbel; have d0 : wr.cell? ⟨q.d, 0, none⟩ = some (.slice (some ⟨q.gk, 0, none⟩) D.many ck) := hr.cells.1
    by_cases hlt : k < D.many
    · obtain ⟨⟨xa, xn, xc⟩, hx, hw, hb⟩ := hr.row hlt; obtain ⟨hxn, _, _⟩ := hw; simp only at hxn; subst hxn; simp only [slV] at hx; have hrd := hb.1.rd; simp only at hrd; have hL := hdd (take_secOf D.kept k); clear hb hr; go_wp2_with (first | (at_builtin; refine qa6 rfl rfl vg0 qc2 (s := .tmp 14) (N := (k + 1) * 128) (L := D.kept.take ((k + 1) * 128)) rfl hown rfl (k := qc7 D.kept (k : Int)) hrd omg hL.out uml omg hbs ?_; intro A5 c5 w5 hown5 hg5 hat5 hb5) | fail "no arm"); go_roundw
      case rel => first
        | exact ⟨k + 1, A5, c5, omg, by go_num, rfl, hown5, hbel.trans hb5⟩
        | ((repeat apply Exists.intro); exact ⟨⟨k + 1, A5, c5, omg, by go_num, rfl, hown5, hbel.trans hb5⟩, rfl⟩)
      case measure => simp [intOf]; omega
    · have hk9 : k = D.many := omg; have hall : Hid (D.kept.take (k * 128) = D.kept) := by show _ = _; rw [List.take_of_length_le (by rw [hlen, hk9]; omega)]
      rw [hall.out] at hown; have HO := hdd hown; clear hown hr hk9; go_wp2; go_ret; exact ⟨B, k * 128, d, rfl, HO.out, hbel⟩
end
def qu0 (gs : List Nat) : List SlV := gs.map fun g => ⟨some ⟨g, 0, none⟩, 128, 128⟩
structure ql5 (w : World) (base d go : Nat) (KA IA : Option Addr) (ck ci : Nat) (gs : List Nat) (img : List UInt8) (ins : List Bool) (room : Int) : Prop where
  st : Blk w d 124 [.slice KA gs.length ck, .slice IA gs.length ci, .slice none 0 0, .int .i64 room, .int .i64 (-1), .bool false, .slice (some ⟨go, 0, none⟩) 3 3]
  kept : Ow slV w base 22 KA gs.length ck (qu0 gs)
  inu : Ow qo1 w base 4 IA gs.length ci ins
  op : Blk w go 3 [.int .i64 0, .int .i64 0, .int .i64 0]
  rows : ∀ (j g : Nat), gs[j]? = some g → base ≤ g ∧ Blk w g 5 ((qc7 img (j : Int)).map bv)
  nd : gs.Nodup
  bd : base ≤ d
  bo : base ≤ go
section
variable {w w' : World} {base d go : Nat} {KA IA : Option Addr} {ck ci : Nat} {gs : List Nat} {img : List UInt8} {ins : List Bool} {room : Int}
theorem ql5.below (h : ql5 w base d go KA IA ck ci gs img ins room) (hb : Below w.heap.size w w') : ql5 w' base d go KA IA ck ci gs img ins room :=
  ⟨h.st.below hb h.st.lt, h.kept.below hb nlr, h.inu.below hb nlr, h.op.below hb h.op.lt, fun j g hg => ⟨(h.rows j g hg).1, (h.rows j g hg).2.below hb (h.rows j g hg).2.lt⟩, h.nd, h.bd, h.bo⟩
theorem ql5.grownK {KA' : Option Addr} {ck' g : Nat} {w6 : World} (h : ql5 w base d go KA IA ck ci gs img ins room) (ho : Ow slV w6 base 22 KA' (gs.length + 1) ck' (qu0 (gs ++ [g]))) (hg : w.grownBy w6 (KA.map (·.block))) :
    (∀ {g' : Nat} {t : TypeId} {cs : List Value}, Blk w g' t cs → 22 ≠ t → Blk w6 g' t cs) ∧ Ow qo1 w6 base 4 IA gs.length ci ins := by
  have hne : ∀ {g' : Nat} {t : TypeId} {cs : List Value}, Blk w g' t cs → 22 ≠ t → KA.map (·.block) ≠ some g' := fun hb hn => h.kept.ne_ hb hn
  exact ⟨fun hb hn => hb.grown hg (hne hb hn), h.inu.grownOw h.kept hg dcd⟩
end
theorem elemBo : qg4 Tryz.prog 121 4 (.bool false) 1 1 := qg4.mk' Tryz.underlying121 (by kernel_rfl) rfl dcd
theorem boolV_one (b : Bool) : (qo1 b).oneCell' = true := rfl
section
variable {w w' : World}
theorem rnew_any (many : Nat) (room : Int) (w : World) (hm : many ≤ 4096) : Calls Tryz.prog 57 #[.int .i64 (many : Nat), .int .i64 room] w fun e w' => ∃ d go KA IA ck ci gs, e = .returned (.pointer (some ⟨d, 0, none⟩)) ∧ gs.length = many ∧ ql5 w' w.heap.size d go KA IA ck ci gs (List.replicate (many * 128) 0) (List.replicate many false) room ∧ Below w.heap.size w w' := by
  have hz : ∀ j, j < many → Hid (qc7 (List.replicate (many * 128) (0 : UInt8)) (j : Int) = List.replicate 128 0) := fun j hj => by
    show _ = _
    unfold qc7; rw [List.drop_replicate, List.take_replicate]
    congr 1; omega
  have hmk : ∀ W : World, (Instr.makeSlice 22 (.int .i64 128) (.int .i64 128)).run Tryz.prog W = .ok (.slice (some ⟨W.heap.size, 0, none⟩) 128 128) (W.alloc (.cells (madeCells (Value.int .u8 0).cells 128) 5)) := qi4 vg0 128 omg omg; have hmc : (madeCells (Value.int .u8 0).cells 128) = ((List.replicate 128 (0 : UInt8)).map bv).toArray := by kernel_rfl
  rw [hmc] at hmk; clear hmc; obtain ⟨Z, hZ⟩ : ∃ Z, (List.replicate 128 (0 : UInt8)).map bv = Z := ⟨_, rfl⟩; rw [hZ] at hmk; have HZ := hdd hZ; have HZZ := hdd hz; clear hZ hz; go_enter Tryz.func57, Tryz.ntmps57; go_wp2; have b0 : Below w.heap.size w ((w.alloc (.cells #[.int .i64 0, .int .i64 0, .int .i64 0] 3)).alloc (.cells #[.slice none 0 0, .slice none 0 0, .slice none 0 0, .int .i64 room, .int .i64 (-1), .bool false, .slice (some ⟨w.heap.size, 0, none⟩) 3 3] 124)) := gwn; go_loopw [6] (fun i wr => ∃ (k : Nat) (KA IA : Option Addr) (ck ci : Nat) (gs : List Nat), k ≤ many ∧ i = .int .i64 (k : Nat) ∧ gs.length = k ∧ ql5 wr w.heap.size (w.heap.size + 1) w.heap.size KA IA ck ci gs (List.replicate (many * 128) 0) (List.replicate k false) room ∧ Below w.heap.size w wr) (fun i _ => many - (intOf i).toNat)
  case atStart => exact ⟨0, none, none, 0, 0, [], omg, rfl, rfl, ⟨Blk.top _ smp rfl, Ow.nil _ _ _ _, Ow.nil _ _ _ _, (Blk.top _ rfl rfl : Blk (w.alloc (.cells #[.int .i64 0, .int .i64 0, .int .i64 0] 3)) w.heap.size 3 _).alloc _, fun j g hg => (by simp at hg), List.nodup_nil, omg, omg⟩, b0⟩
  case round =>
    obtain ⟨k, KA, IA, ck, ci, gs, hk, rfl, hgs, hR, hbel⟩ := hrel
    by_cases hlt : k < many
    · have hbs := hbel.size; have c0 : wr.cell? ⟨w.heap.size + 1, 0, none⟩ = some (.slice KA gs.length ck) := hR.st.cell 0; have c1 : wr.cell? ⟨w.heap.size + 1, 1, none⟩ = some (.slice IA gs.length ci) := hR.st.cell 1; have f0 := hR.st.frozen 0; have ld := hR.st.lt; have hst := hR.st; have hkp := hR.kept; have hdne := hR.kept.ne_ hR.st dcd; have HR := hdd hR; have HG := hdd hgs; have hgl : gs.length ≤ 4096 := omg; have hro : Hid (qu0 gs ++ [⟨some ⟨wr.heap.size, 0, none⟩, 128, 128⟩] = qu0 (gs ++ [wr.heap.size])) := by show _ = _; simp [qu0]
      clear hR hgs; generalize hdn : w.heap.size + 1 = dn at *; have HDN := hdd hdn; clear hdn; go_wp2_with fail; go_region_law ((refine qd6 rfl rfl elemHdr slV_one (s := .tmp 20) (N := gs.length + 1) (L := qu0 (gs ++ [wr.heap.size])) rfl (hkp.below (b := wr.heap.size) gwn nlr) rfl (k := [⟨some ⟨wr.heap.size, 0, none⟩, 128, 128⟩]) (Rd.drew' (Rd.of_block (enc := slV) (w := (wr.alloc (.cells Z.toArray 5)).alloc (.cells #[.slice (some ⟨wr.heap.size, 0, none⟩) 128 128] 22)) (l := ([⟨some ⟨wr.heap.size, 0, none⟩, 128, 128⟩] : List SlV)) (qb7 _ _ smp) rfl)) rfl hro.out uml omg (by simp; omega) ?_; intro A5 c5 w5 hown5 hg5 hat5 hb5; have x5 := Blk.grown (w' := w5) (((hst.alloc (.cells Z.toArray 5)).alloc (.cells #[.slice (some ⟨wr.heap.size, 0, none⟩) 128 128] 22)).drew) hg5 hdne; have y5 : w5.cell? ⟨dn, 0, none⟩ = some (.slice KA gs.length ck) := x5.cell 0; have f5 := x5.frozen 0; have l5 := x5.lt))
      all_goals
        have bP : Below wr.heap.size wr (((wr.alloc (.cells Z.toArray 5)).alloc (.cells #[.slice (some ⟨wr.heap.size, 0, none⟩) 128 128] 22)).drew) := gwn; have hP := HR.out.below bP; obtain ⟨gb, gi⟩ := hP.grownK hown5 hg5; have hnew : Blk w5 wr.heap.size 5 Z := gb (Blk.drew (Blk.alloc (Blk.top wr rfl rfl) _)) dcd; have hbel5 := (hbel.trans (bP.mono hbs)).trans hb5; have goal6 : ∃ w6, w5.setCell ⟨dn, 0, none⟩ (.slice A5 (gs.length + 1) c5) = w6 := ⟨_, rfl⟩; obtain ⟨w6, hw6⟩ := goal6; have st6 : Blk w6 dn 124 [.slice A5 (gs.length + 1) c5, .slice IA gs.length ci, .slice none 0 0, .int .i64 room, .int .i64 (-1), .bool false, .slice (some ⟨w.heap.size, 0, none⟩) 3 3] := by rw [← hw6]; exact x5.set_ 0 _
        have kp6 : Ow slV w6 w.heap.size 22 A5 (gs.length + 1) c5 (qu0 (gs ++ [wr.heap.size])) := by rw [← hw6]; exact hown5.setFar x5 dcd 0 _
        have in6 : Ow qo1 w6 w.heap.size 4 IA gs.length ci (List.replicate k false) := by rw [← hw6]; exact gi.setFar x5 dcd 0 _
        have far6 : ∀ {g : Nat} {t : TypeId} {cs : List Value}, Blk w5 g t cs → t ≠ 124 → Blk w6 g t cs := fun {g t cs} hb hn => by rw [← hw6]; exact hb.far (p := ⟨dn, 0, none⟩) (hb.ne_ x5 hn) _
        have op6 := far6 (gb hP.op dcd) dcd; have rw6 : ∀ (j g : Nat), (gs ++ [wr.heap.size])[j]? = some g → w.heap.size ≤ g ∧ Blk w6 g 5 ((qc7 (List.replicate (many * 128) (0 : UInt8)) (j : Int)).map bv) := fun j g hj => by
          rcases Nat.lt_or_ge j gs.length with q1 | q1
          · rw [List.getElem?_append_left q1] at hj; exact ⟨(hP.rows j g hj).1, far6 (gb (hP.rows j g hj).2 dcd) dcd⟩
          · have e9 : j = gs.length := by
              have := (List.getElem?_eq_some_iff.1 hj).1; rw [List.length_append, List.length_singleton] at this; omega
            rw [e9, List.getElem?_append_right nlr, Nat.sub_self] at hj; simp only [List.getElem?_cons_zero, Option.some.injEq] at hj; rw [← hj]; refine ⟨hbs, ?_⟩; rw [(HZZ.out j (by rw [e9, HG.out]; exact hlt)).out, HZ.out]; exact far6 hnew dcd
        have nd6 : (gs ++ [wr.heap.size]).Nodup := by
          rw [List.nodup_append]; refine ⟨HR.out.nd, List.nodup_cons.2 ⟨by simp, List.nodup_nil⟩, fun a ha b hb => ?_⟩; rw [List.mem_singleton] at hb; subst hb; obtain ⟨j, hj⟩ := List.getElem?_of_mem ha; have := (HR.out.rows j a hj).2.lt; omega
        have bel6 : Below w.heap.size w w6 := by rw [← hw6]; exact hbel5.setCell (by show w.heap.size ≤ dn; have := HDN.out; omega) _
        have hino : Hid (List.replicate k false ++ [false] = List.replicate (k + 1) false) := by show _ = _; rw [List.replicate_succ']
        have d6 : w6.cell? ⟨dn, 1, none⟩ = some (.slice IA gs.length ci) := st6.cell 1; have l6 := st6.lt; have s6 := bel6.size; have hne6 := in6.ne_ st6 dcd; have KP6 := hdd kp6; have OP6 := hdd op6; have RW6 := hdd rw6; have ND6 := hdd nd6; have BE6 := hdd bel6; rw [hw6]; clear hw6 x5 y5 f5 l5 hown5 hg5 hat5 hb5 bP hP gb gi hnew hbel5 far6 kp6 op6 rw6 nd6 bel6 c0 c1 f0 ld hst hkp hdne hbel; go_wp2_with (first | (at_builtin; refine qa6 rfl rfl elemBo boolV_one (s := .tmp 30) (N := gs.length + 1) (L := List.replicate (k + 1) false) rfl (in6.below (b := w6.heap.size) gwn nlr) rfl (k := [false]) (Rd.of_block (enc := qo1) (l := [false]) (qb7 _ _ smp) rfl) rfl hino.out uml omg (by simp; omega) ?_; intro A7 c7 w7 hown7 hg7 hat7 hb7; have x7 := Blk.grown (w' := w7) (st6.alloc (.cells #[.bool false] 4)) hg7 hne6; have y7 : w7.cell? ⟨dn, 1, none⟩ = some (.slice IA gs.length ci) := x7.cell 1; have f7 := x7.frozen 1; have l7 := x7.lt) | fail "no arm"); go_roundw
        case rel =>
          have bA : Below w6.heap.size w6 (w6.alloc (.cells #[.bool false] 4)) := (Below.refl _ _).alloc nlr _; have inA := in6.below bA nlr; have gb7 : ∀ {g : Nat} {t : TypeId} {cs : List Value}, Blk w6 g t cs → 4 ≠ t → Blk w7 g t cs := fun hb hn => Blk.grown (hb.alloc _) hg7 (inA.ne_ (hb.alloc _) hn)
          have far7 : ∀ {g : Nat} {t : TypeId} {cs : List Value}, Blk w6 g t cs → 4 ≠ t → t ≠ 124 → Blk (w7.setCell ⟨dn, 1, none⟩ (.slice A7 (gs.length + 1) c7)) g t cs := fun hb hn h2 => (gb7 hb hn).far (p := ⟨dn, 1, none⟩) ((gb7 hb hn).ne_ x7 h2) _
          have hl9 : (gs ++ [wr.heap.size]).length = gs.length + 1 := by simp
          have f1 : ql5 (w7.setCell ⟨dn, 1, none⟩ (.slice A7 (gs.length + 1) c7)) w.heap.size dn w.heap.size A5 A7 c5 c7 (gs ++ [wr.heap.size]) (List.replicate (many * 128) 0) (List.replicate (k + 1) false) room := by
            refine ⟨?_, ?_, ?_, far7 OP6.out dcd dcd, fun j g hj => ⟨(RW6.out j g hj).1, far7 (RW6.out j g hj).2 dcd dcd⟩, ND6.out, by have := HDN.out; omega, Nat.le_refl _⟩
            · rw [hl9]; exact x7.set_ 1 _
            · rw [hl9]; exact (((KP6.out.below bA nlr).grownOw inA hg7 dcd).setFar x7 dcd 1 _)
            · rw [hl9]; exact hown7.setFar x7 dcd 1 _
          have f2 : Below w.heap.size w (w7.setCell ⟨dn, 1, none⟩ (.slice A7 (gs.length + 1) c7)) := ((BE6.out.trans (bA.mono s6)).trans hb7).setCell (by show w.heap.size ≤ dn; have := HDN.out; omega) _; have f3 : (gs ++ [wr.heap.size]).length = k + 1 := by rw [hl9, HG.out]
          first
            | exact ⟨k + 1, A5, A7, c5, c7, gs ++ [wr.heap.size], omg, by go_num, f3, f1, f2⟩
            | ((repeat apply Exists.intro); exact ⟨⟨k + 1, A5, A7, c5, c7, gs ++ [wr.heap.size], omg, by go_num, f3, f1, f2⟩, rfl⟩)
        case measure => simp [intOf]; omega
    · have hk9 : k = many := omg; subst hk9; go_wp2; go_ret; exact ⟨_, _, KA, IA, ck, ci, gs, rfl, hgs, hR, hbel⟩
end
def qz5 (img : List UInt8) (many i : Nat) : List UInt8 := img.take i ++ List.replicate (many * 128 - i) 0
theorem partI_zero (img : List UInt8) (many : Nat) : qz5 img many 0 = List.replicate (many * 128) 0 := by simp [qz5]
theorem partI_len {img : List UInt8} {many i : Nat} (h : i ≤ img.length) (hm : img.length ≤ many * 128) : (qz5 img many i).length = many * 128 := by
  unfold qz5; rw [List.length_append, List.length_take, List.length_replicate]; omega
theorem partI_succ {img : List UInt8} {many i : Nat} (h : i < img.length) (hm : img.length ≤ many * 128) : qz5 img many (i + 1) = (qz5 img many i).set i img[i] := by
  unfold qz5; have h1 : (img.take i).length = i := by rw [List.length_take]; omega
  rw [List.set_append_right _ _ omg, h1, Nat.sub_self, show many * 128 - i = (many * 128 - (i + 1)) + 1 by omega, List.replicate_succ, List.set_cons_zero, List.take_succ_eq_append_getElem h, List.append_assoc]
  rfl
theorem partI_all {img : List UInt8} {many : Nat} (hm : img.length ≤ many * 128) : qz5 img many img.length = imgK img many (qk2 img) := by
  unfold qz5 imgK qk2; rw [List.take_of_length_le nlr, List.take_of_length_le omg, Nat.min_eq_left omg]
theorem secOf_set {l : List UInt8} {many i j : Nat} (hl : l.length = many * 128) (hi : i < many * 128) (hj : j < many) (x : UInt8) : qc7 (l.set i x) (j : Int) = if j = i / 128 then (qc7 l (j : Int)).set (i % 128) x else qc7 l (j : Int) := by
  have h1 : (qc7 (l.set i x) (j : Int)).length = 128 := qh8 (s := many) (by rw [List.length_set]; exact hl) omg omg; have h2 : (qc7 l (j : Int)).length = 128 := qh8 (s := many) hl omg omg; have sb : ∀ (l : List UInt8) (i k : Nat) (x : UInt8), i < l.length → qa2 (l.set i x) k = if k = i then x.toNat else qa2 l k := fun l i k x hi => by
    unfold qa2; rw [List.getD_eq_getElem?_getD, List.getD_eq_getElem?_getD, List.getElem?_set]
    by_cases q : i = k
    · rw [if_pos q, if_pos hi, if_pos q.symm]; rfl
    · rw [if_neg q, if_neg (fun e => q e.symm)]
  split
  · rename_i e; refine qy8 (by rw [h1, List.length_set, h2]) (fun k hk => ?_); rw [List.length_set, h2] at hk; rw [qh6 hk, sb _ _ _ _ omg, sb _ _ _ _ omg, qh6 hk]
    by_cases q : k = i % 128
    · rw [if_pos omg, if_pos q]
    · rw [if_neg omg, if_neg q]
  · rename_i e; refine qy8 (by rw [h1, h2]) (fun k hk => ?_); rw [h2] at hk; rw [qh6 hk, sb _ _ _ _ omg, if_neg omg, qh6 hk]
section
variable {w w' : World}
theorem ql5.byte {base d go : Nat} {KA IA : Option Addr} {ck ci : Nat} {gs : List Nat} {img : List UInt8} {ins : List Bool} {room : Int} {many i g : Nat} (h : ql5 w base d go KA IA ck ci gs img ins room) (hl : img.length = many * 128) (hi : i < many * 128) (hg : gs[i / 128]? = some g) (hgs : gs.length = many) (x : UInt8) :
    ql5 (w.setCell ⟨g, i % 128, none⟩ (.int .u8 (x.toNat : Int))) base d go KA IA ck ci gs (img.set i x) ins room := by
  obtain ⟨hb, hbk⟩ := h.rows _ g hg; have far : ∀ {g' : Nat} {t : TypeId} {cs : List Value}, Blk w g' t cs → t ≠ 5 → Blk (w.setCell ⟨g, i % 128, none⟩ (.int .u8 (x.toNat : Int))) g' t cs := fun hb2 hn => hb2.far (p := ⟨g, i % 128, none⟩) (hb2.ne_ hbk hn) _
  refine ⟨far h.st dcd, h.kept.setFar hbk dcd _ _, h.inu.setFar hbk dcd _ _, far h.op dcd, fun j g' hj => ⟨(h.rows j g' hj).1, ?_⟩, h.nd, h.bd, h.bo⟩; have hjm : j < many := by have := (List.getElem?_eq_some_iff.1 hj).1; omega
  rw [secOf_set hl hi hjm x]
  by_cases e : j = i / 128
  · subst e; rw [hg] at hj; injection hj with hj; subst hj; rw [if_pos rfl, List.map_set]; exact hbk.set_ (i % 128) (bv x)
  · rw [if_neg e]; have hne : g' ≠ g := fun e2 => by
      subst e2; have h1 := (List.getElem?_eq_some_iff.1 hj).1; have h2 := (List.getElem?_eq_some_iff.1 hg).1; exact e ((List.getElem?_inj h1 h.nd).1 (hj.trans hg.symm))
    exact (h.rows j g' hj).2.far (p := ⟨g, i % 128, none⟩) hne _
theorem ql5.mark {base d go gi n : Nat} {KA : Option Addr} {ck ci : Nat} {gs : List Nat} {img : List UInt8} {ins : List Bool} {room : Int} (h : ql5 w base d go KA (some ⟨gi, 0, none⟩) ck ci gs img ins room) : ql5 (w.setCell ⟨gi, n, none⟩ (.bool true)) base d go KA (some ⟨gi, 0, none⟩) ck ci gs img (ins.set n true) room := by
  obtain ⟨cs, hb⟩ := h.inu.blk (g := gi) rfl; have far : ∀ {g' : Nat} {t : TypeId} {cs : List Value}, Blk w g' t cs → t ≠ 4 → Blk (w.setCell ⟨gi, n, none⟩ (.bool true)) g' t cs := fun hb2 hn => hb2.far (p := ⟨gi, n, none⟩) (hb2.ne_ hb hn) _
  exact ⟨far h.st dcd, h.kept.setFar hb dcd _ _, h.inu.set n true _ rfl, far h.op dcd, fun j g' hj => ⟨(h.rows j g' hj).1, far (h.rows j g' hj).2 dcd⟩, h.nd, h.bd, h.bo⟩
theorem ql5.rebase {base base' d go : Nat} {KA IA : Option Addr} {ck ci : Nat} {gs : List Nat} {img : List UInt8} {ins : List Bool} {room : Int} (h : ql5 w base d go KA IA ck ci gs img ins room) (hb : base' ≤ base) : ql5 w base' d go KA IA ck ci gs img ins room :=
  ⟨h.st, h.kept.rebase hb, h.inu.rebase hb, h.op, fun j g hg => ⟨Nat.le_trans hb (h.rows j g hg).1, (h.rows j g hg).2⟩, h.nd, Nat.le_trans hb h.bd, Nat.le_trans hb h.bo⟩
theorem ql5.disk {base d go gk gi : Nat} {ck ci : Nat} {gs : List Nat} {many k : Nat} {img : List UInt8} {room : Int} (h : ql5 w base d go (some ⟨gk, 0, none⟩) (some ⟨gi, 0, none⟩) ck ci gs (imgK img many k) (qq3 many k) room) (hgs : gs.length = many) (h0 : 1 ≤ many) (h1 : many ≤ 4096) (r0 : 0 ≤ room) (r1 : room ≤ many) (hi : img.length ≤ many * 128) (hk : (k : Int) ≤ room) :
    qc0 w base ⟨d, gk, gi, go⟩ none 0 ck ci (qr2 many room img k) := by
  refine ⟨loadD_ok h0 h1 r0 r1 hi omg, cons_load omg hk, rfl, ?_, ⟨qu0 gs, ?_, fun j x hx => ?_⟩, ?_, qq2.nil _ _, h.op, h.bd, h.bo⟩
  · have := h.st; rw [hgs] at this; exact this
  · have := h.kept; rw [hgs] at this; exact this
  · unfold qu0 at hx; rw [List.getElem?_map] at hx
    cases hg : gs[j]? with
    | none => rw [hg] at hx; cases hx
    | some g =>
      rw [hg] at hx; simp only [Option.map_some, Option.some.injEq] at hx; subst hx; obtain ⟨hb, hbk⟩ := h.rows j g hg; have hjm : j < many := by have := (List.getElem?_eq_some_iff.1 hg).1; omega
      have hl : (qc7 (imgK img many k) (j : Int)).length = 128 := qh8 (s := many) (qp3 hi) omg omg; have hr : RB w (some ⟨g, 0, none⟩) 128 (qc7 (imgK img many k) (j : Int)) := by
        have := RB.of_block (l := qc7 (imgK img many k) (j : Int)) hbk rfl; rw [hl] at this; exact this
      exact ⟨⟨rfl, Nat.le_refl _, by show 128 ≤ maxLen; unfold maxLen; omega⟩, hr, by show 128 ≤ maxLen; unfold maxLen; omega, fun _ g' hg' => (by
        simp only [Option.map_some, Option.some.injEq] at hg'; subst hg'; exact .inr ⟨_, hbk⟩)⟩
  · have := h.inu; rw [hgs] at this; exact this
def vf7 (w : World) (D : qa3) (e : Ending) (w' : World) : Prop := ∃ q : qf0, e = .returned (.tuple #[.pointer (some ⟨q.d, 0, none⟩), .int .i64 0]) ∧ (∀ base, base ≤ w.heap.size → qb5 w' base q D) ∧ w.heap.size ≤ q.gi ∧ Below w.heap.size w w'
def cntI (i : Nat) : Nat := (i + 127) / 128
theorem cntI_yes {i : Nat} (h : i % 128 = 0) : cntI (i + 1) = cntI i + 1 ∧ cntI i = i / 128 := by unfold cntI; omega
theorem cntI_no {i : Nat} (h : i % 128 ≠ 0) : cntI (i + 1) = cntI i := by unfold cntI; omega
theorem rload_any (B : Option Addr) (n d many : Nat) (room : Int) (img : List UInt8) (w : World) (hr : RB w B n img) (h0 : 1 ≤ many) (h1 : many ≤ 4096) (r0 : 0 ≤ room) (r1 : room ≤ many) (hn : n ≤ many * 128) (P : Ending → World → Prop)
    (hyes : (qk2 img : Int) ≤ room → ∀ e w', vf7 w (qr2 many room img (qk2 img)) e w' → P e w') (hno : room < (qk2 img : Int) → ∀ e w', e = .returned (.tuple #[.pointer none, .int .i64 52]) ∧ Below w.heap.size w w' → P e w') :
    Calls Tryz.prog 15 #[.slice B n d, .int .i64 (many : Nat), .int .i64 room] w P := by
  have hlen := hr.1; have hnew := rnew_any many room w h1; have hP0 := hdd (partI_zero img many); have hT0 := hdd (show qq3 many 0 = List.replicate many false by simp [qq3]); have HY := hdd hyes; have HN := hdd hno; have HLEN := hdd hlen; have HALL := hdd (partI_all (img := img) (many := many) omg); have hmI : (1 : Int) ≤ (many : Nat) := omg; have hmI2 : ((many : Nat) : Int) ≤ 4096 := omg; have hnI : ((n : Nat) : Int) ≤ 128 * ((many : Nat) : Int) := omg; clear hyes hno hlen; go_enter Tryz.func15, Tryz.ntmps15; go_wp2_with (first | ((go_at_call 57; (with_reducible refine (hnew).mono ?_); rintro e w1 ⟨dd, go, KA, IA, ck, ci, gs, rfl, hgs, hR, hb1⟩); have HR := hdd hR; have HG := hdd hgs; have B1 := hdd hb1; have s1 := hb1.size; clear hR hgs hb1) | fail "no arm"); have hka := HR.out.kept.addr (by rw [HG.out]; omega); have hia := HR.out.inu.addr (by rw [HG.out]; omega); obtain ⟨gk, hKA, _, _⟩ := hka; obtain ⟨gi, hIA, _, _⟩ := hia; subst hKA hIA; clear hnew; go_loopw [9, 10] (fun m i wr => ∃ k : Nat, k ≤ n ∧ i = .int .i64 (k : Nat) ∧ m = .int .i64 (cntI k : Nat) ∧ ql5 wr w.heap.size dd go (some ⟨gk, 0, none⟩) (some ⟨gi, 0, none⟩) ck ci gs (qz5 img many k) (qq3 many (cntI k)) room ∧ Below w.heap.size w wr) (fun _ i _ => n - (intOf i).toNat)
  case atStart => exact ⟨0, omg, rfl, rfl, by rw [hP0.out, show cntI 0 = 0 from rfl, hT0.out]; exact HR.out, B1.out⟩
  case round =>
    obtain ⟨k, hk, rfl, rfl, hR, hbel⟩ := hrel; have hbs := hbel.size; have hcle : cntI k ≤ 4096 := by unfold cntI; omega
    have hil1 := Nat.le_of_eq HLEN.out; have hil2 := Nat.le_of_eq HLEN.out.symm
    by_cases hlt : k < n
    · obtain ⟨b1, o1, hB1, hbb, hc1⟩ := (hr.below hbel nlr).at_ hlt; have hkl : k < img.length := by rw [HLEN.out]; exact hlt
      have hjm : k / 128 < many := omg; have hgl : k / 128 < gs.length := by rw [HG.out]; exact hjm
      have hgj : gs[k / 128]? = some gs[k / 128] := List.getElem?_eq_getElem hgl; have hsucc := hdd (partI_succ (many := many) hkl omg); have hbyte : qa2 img k = img[k].toNat := by unfold qa2; rw [List.getD_eq_getElem?_getD, List.getElem?_eq_getElem hkl]; rfl
      have hstp := hR.byte (partI_len omg omg) (show k < many * 128 by omega) hgj HG.out img[k]; rw [← hsucc.out, ← hbyte] at hstp; obtain ⟨hgb, hgblk⟩ := hR.rows _ _ hgj; have c0 : wr.cell? ⟨dd, 0, none⟩ = some (.slice (some ⟨gk, 0, none⟩) gs.length ck) := hR.st.cell 0; have ck0 : wr.cell? ⟨gk, k / 128, none⟩ = some (.slice (some ⟨gs[k / 128], 0, none⟩) 128 128) := by
        obtain ⟨b, o, e1, hlt', hc⟩ := hR.kept.rd.2.at_ hgl; injection e1 with e1; injection e1 with e2 e3 _; subst e2 e3; rw [Nat.zero_add, qo0 _ _ (by simp [qu0]; exact hgl)] at hc; rw [hc]; simp [qu0, slV]
      have hsl : (qc7 (qz5 img many k) ((k / 128 : Nat) : Int)).length = 128 := qh8 (s := many) (partI_len omg omg) omg omg; have cg : ∃ v, wr.cell? ⟨gs[k / 128], k % 128, none⟩ = some v := ⟨_, (hgblk.cell (k % 128)).trans (List.getElem?_eq_getElem (by rw [List.length_map, hsl]; omega))⟩; obtain ⟨v9, cg⟩ := cg; have fg := hgblk.frozen (k % 128); generalize gs[k / 128] = g at *; have HST := hdd hstp; have HB := hdd hbel; have lg := hgblk.lt; have hq1 : ((k : Int) / 128).toNat = k / 128 := omg; have hq2 : (k : Int) / 128 < (gs.length : Nat) := omg; have hq3 : 0 ≤ (k : Int) / 128 := omg; have hq4 : ((k : Int) % 128).toNat = k % 128 := omg; have hq5 : (k : Int) % 128 < 128 := omg; have hq6 : 0 ≤ (k : Int) % 128 := omg; subst hB1; clear hstp hbel hgblk hgj hbyte hsl hR; have bel2 : Below w.heap.size w ((wr.setCell ⟨g, k % 128, none⟩ (.int .u8 ((qa2 img k : Nat) : Int))).drew) := (HB.out.setCell hgb _).drew; have R2 := HST.out.below (Below.drew (Below.refl (wr.setCell ⟨g, k % 128, none⟩ (.int .u8 ((qa2 img k : Nat) : Int))).heap.size (wr.setCell ⟨g, k % 128, none⟩ (.int .u8 ((qa2 img k : Nat) : Int))))); have R2H := hdd R2; have BEL2 := hdd bel2; have HGI := hdd hgl; clear R2 bel2
      by_cases hm0 : k % 128 = 0
      · have hm0B : ((k : Int) % 128 == 0) = true := by rw [beq_iff_eq]; omega
        obtain ⟨hy1, hy2⟩ := cntI_yes hm0; have hset : Hid ((qq3 many (cntI k)).set (k / 128) true = qq3 many (cntI (k + 1))) := by show _ = _; rw [hy1, ← hy2]; exact vg5 omg
        have hcnt := hdd hy1; clear hy1 hy2 hm0; go_wp2_with fail; refine qb6 15 (by kernel_rfl) (by kernel_rfl) ?_; simp only [List.take_succ_cons, List.take_zero, List.drop_succ_cons, List.drop_zero]
        repeat (go_big_quiet_step (fail))
        refine wpQuiet_nil ?_; go_upto_region 9 with fail; refine qp0 (fun W => ql5 W w.heap.size dd go (some ⟨gk, 0, none⟩) (some ⟨gi, 0, none⟩) ck ci gs (qz5 img many (k + 1)) (qq3 many (cntI k)) room ∧ Below w.heap.size w W) ⟨R2H.out, BEL2.out⟩ ?_; intro w2 ⟨hR2, hb2⟩; have c1 : w2.cell? ⟨dd, 1, none⟩ = some (.slice (some ⟨gi, 0, none⟩) gs.length ci) := hR2.st.cell 1; have fgi := hR2.inu.free (k / 128); obtain ⟨v2, hv2⟩ : ∃ v, w2.cell? ⟨gi, k / 128, none⟩ = some v := by
          obtain ⟨b, o, e2, _, e3⟩ := hR2.inu.rd.2.at_ HGI.out; injection e2 with e2; injection e2 with e4 e5 _; subst e4 e5; rw [Nat.zero_add] at e3; exact ⟨_, e3⟩
        have hgib := (hR2.inu.lt gi rfl).1; have HR2 := hdd hR2; have HB2 := hdd hb2; clear hR2 hb2 c0 ck0 cg fg lg; go_wp2_with fail; go_roundw
        case rel =>
          have f1 : ql5 (w2.setCell ⟨gi, k / 128, none⟩ (.bool true)) w.heap.size dd go (some ⟨gk, 0, none⟩) (some ⟨gi, 0, none⟩) ck ci gs (qz5 img many (k + 1)) (qq3 many (cntI (k + 1))) room := by rw [← hset.out]; exact HR2.out.mark
          have f2 : Below w.heap.size w (w2.setCell ⟨gi, k / 128, none⟩ (.bool true)) := HB2.out.setCell hgib _; have f3 : Value.int .i64 ((cntI k : Int) + 1) = .int .i64 (cntI (k + 1) : Nat) := by rw [hcnt.out]; go_num
          first
            | exact ⟨k + 1, omg, by go_num, f3, f1, f2⟩
            | ((repeat apply Exists.intro); exact ⟨⟨k + 1, omg, by go_num, f3, f1, f2⟩, rfl⟩)
        case measure => simp [intOf]; omega
      · have hm0B : ((k : Int) % 128 == 0) = false := by rw [beq_eq_false_iff_ne]; omega
        have hcnt := hdd (cntI_no hm0); clear hm0; go_wp2_with fail; refine qb6 15 (by kernel_rfl) (by kernel_rfl) ?_; simp only [List.take_succ_cons, List.take_zero, List.drop_succ_cons, List.drop_zero]
        repeat (go_big_quiet_step (fail))
        refine wpQuiet_nil ?_; go_wp2_with fail; go_roundw
        case rel =>
          have f1 := R2H.out; have f2 := BEL2.out; rw [← hcnt.out] at f1; have f3 : Value.int .i64 (cntI k : Nat) = .int .i64 (cntI (k + 1) : Nat) := by rw [hcnt.out]
          first
            | exact ⟨k + 1, omg, by go_num, f3, f1, f2⟩
            | ((repeat apply Exists.intro); exact ⟨⟨k + 1, omg, by go_num, f3, f1, f2⟩, rfl⟩)
        case measure => simp [intOf]; omega
    · have hk9 : k = img.length := omg; have hu : Hid (cntI k = qk2 img) := by show _ = _; rw [hk9]; rfl
      rw [hk9, HALL.out, show cntI img.length = qk2 img from rfl] at hR; have HRR := hdd hR; have HB := hdd hbel; clear hR hbel hk9; rw [hu.out] at hcle ⊢
      by_cases hroom : (qk2 img : Int) ≤ room
      · have hB9 : decide (room < ((qk2 img : Nat) : Int)) = false := by rw [decide_eq_false_iff_not]; omega
        have hHR := hdd hroom; clear hroom; generalize hun : qk2 img = un at *; have HUN := hdd hun; clear hun; go_wp2_with fail; exact HY.out hHR.out _ _ ⟨⟨dd, gk, gi, go⟩, rfl, fun base hb => ⟨none, 0, ck, ci, (HRR.out.rebase hb).disk HG.out h0 h1 r0 r1 omg hHR.out⟩, (HRR.out.inu.lt gi rfl).1, HB.out⟩
      · have hB9 : decide (room < ((qk2 img : Nat) : Int)) = true := by rw [decide_eq_true_iff]; omega
        have hHR := hdd (show room < (qk2 img : Int) by omega); clear hroom; generalize hun : qk2 img = un at *; have HUN := hdd hun; clear hun; go_wp2_with fail; exact HN.out hHR.out _ _ ⟨rfl, HB.out⟩
end
end Go.Proofs.YtpmkpckldnnigaaGreat
