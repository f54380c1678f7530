/- The document's disk: Image, New. -/
import Derived.Test.YtninidpbchcliaaRDiskF
namespace Go.Proofs.Ytninidpbchcliaa
open Go.RowKit
set_option linter.unusedVariables false
set_option linter.unusedSimpArgs false
theorem take_secOf (l : List UInt8) (k : Nat) : l.take (k * 128) ++ secOf l (k : Int) = l.take ((k + 1) * 128) := by
  unfold secOf
  rw [Int.toNat_natCast, show (k + 1) * 128 = k * 128 + 128 by omega, List.take_add]
section
variable {w w' : World} {base : Nat} {q : RDiskP} {A : Option Addr} {c ck ci : Nat} {D : DiskV}
set_option maxRecDepth 100000 in
set_option maxHeartbeats 8000000 in
theorem rimage_any (h : RDiskAt w base q A c ck ci D) : Calls Try.prog 35 #[.pointer (some ⟨q.d, 0, none⟩)] w fun e w' => ∃ B N d, e = .returned (.slice B N d) ∧ OB w' w.heap.size 5 B N d D.kept ∧ Below w.heap.size w w' := by
  have hm1 := h.ok.many1
  have hlen := h.ok.kept
  have HH := Lib.hid h
  obtain ⟨c0, c1, c2, c3, c4, c5, c6⟩ := h.cells
  have lqd := h.st.lt
  clear h c1 c2 c3 c4 c5 c6
  go_enter Try.func35, Try.ntmps35
  go_wp2
  go_loopw [3, 4] (fun v i wr => ∃ (k : Nat) (B : Option Addr) (d : Nat), k ≤ D.many ∧ i = .int .i64 (k : Nat) ∧ v = .slice B (k * 128) d ∧ Ow bv wr w.heap.size 5 B (k * 128) d (D.kept.take (k * 128)) ∧ Below w.heap.size w wr) (fun _ i _ => D.many - (intOf i).toNat)
  case atStart => exact ⟨0, none, 0, by omega, rfl, rfl, Ow.nil _ _ _ _, Below.refl _ _⟩
  case round =>
    obtain ⟨k, B, d, hk, rfl, rfl, hown, hbel⟩ := hrel
    have hbs := hbel.size
    have hr := HH.out.below hbel
    have d0 : wr.cell? ⟨q.d, 0, none⟩ = some (.slice (some ⟨q.gk, 0, none⟩) D.many ck) := hr.cells.1
    by_cases hlt : k < D.many
    · obtain ⟨⟨xa, xn, xc⟩, hx, hw, hb⟩ := hr.row hlt
      obtain ⟨hxn, _, _⟩ := hw
      simp only at hxn
      subst hxn
      simp only [slV] at hx
      have hrd := hb.1.rd
      simp only at hrd
      have hL := Lib.hid (take_secOf D.kept k)
      clear hb hr
      go_wp2_with (first
        | (at_builtin; refine wpList_app rfl rfl elemB bv_one (s := .tmp 14) (N := (k + 1) * 128) (L := D.kept.take ((k + 1) * 128)) rfl hown rfl (k := secOf D.kept (k : Int)) hrd (by omega) hL.out (by unfold maxLen; omega) (by omega) hbs ?_; intro A5 c5 w5 hown5 hg5 hat5 hb5)
        | fail "no arm")
      go_roundw
      case rel => first
        | exact ⟨k + 1, A5, c5, by omega, by go_num, rfl, hown5, hbel.trans hb5⟩
        | ((repeat apply Exists.intro); exact ⟨⟨k + 1, A5, c5, by omega, by go_num, rfl, hown5, hbel.trans hb5⟩, rfl⟩)
      case measure => simp [intOf]; omega
    · have hk9 : k = D.many := by omega
      have hall : Hid (D.kept.take (k * 128) = D.kept) := by show _ = _; rw [List.take_of_length_le (by rw [hlen, hk9]; omega)]
      rw [hall.out] at hown
      have HO := Lib.hid hown
      clear hown hr hk9
      go_wp2
      go_ret
      exact ⟨B, k * 128, d, rfl, HO.out, hbel⟩
end
/-- A disk that is being made: each sector a block of its own. -/
def rowsOf (gs : List Nat) : List SlV := gs.map fun g => ⟨some ⟨g, 0, none⟩, 128, 128⟩
structure RNewAt (w : World) (base d go : Nat) (KA IA : Option Addr) (ck ci : Nat) (gs : List Nat) (img : List UInt8) (ins : List Bool) (room : Int) : Prop where
  st : Blk w d 65 [.slice KA gs.length ck, .slice IA gs.length ci, .slice none 0 0, .int .i64 room, .int .i64 (-1), .bool false, .slice (some ⟨go, 0, none⟩) 3 3]
  kept : Ow slV w base 23 KA gs.length ck (rowsOf gs)
  inu : Ow boolV w base 4 IA gs.length ci ins
  op : Blk w go 3 [.int .i64 0, .int .i64 0, .int .i64 0]
  rows : ∀ (j g : Nat), gs[j]? = some g → base ≤ g ∧ Blk w g 5 ((secOf img (j : Int)).map bv)
  nd : gs.Nodup
  bd : base ≤ d
  bo : base ≤ go
section
variable {w w' : World} {base d go : Nat} {KA IA : Option Addr} {ck ci : Nat} {gs : List Nat} {img : List UInt8} {ins : List Bool} {room : Int}
theorem RNewAt.below (h : RNewAt w base d go KA IA ck ci gs img ins room) (hb : Below w.heap.size w w') : RNewAt w' base d go KA IA ck ci gs img ins room :=
  ⟨h.st.below hb h.st.lt, h.kept.below hb (Nat.le_refl _), h.inu.below hb (Nat.le_refl _), h.op.below hb h.op.lt, fun j g hg => ⟨(h.rows j g hg).1, (h.rows j g hg).2.below hb (h.rows j g hg).2.lt⟩, h.nd, h.bd, h.bo⟩
theorem RNewAt.grownK {KA' : Option Addr} {ck' g : Nat} {w6 : World} (h : RNewAt w base d go KA IA ck ci gs img ins room) (ho : Ow slV w6 base 23 KA' (gs.length + 1) ck' (rowsOf (gs ++ [g]))) (hg : w.grownBy w6 (KA.map (·.block))) :
    (∀ {g' : Nat} {t : TypeId} {cs : List Value}, Blk w g' t cs → 23 ≠ t → Blk w6 g' t cs) ∧ Ow boolV w6 base 4 IA gs.length ci ins := by
  have hne : ∀ {g' : Nat} {t : TypeId} {cs : List Value}, Blk w g' t cs → 23 ≠ t → KA.map (·.block) ≠ some g' := fun hb hn => h.kept.ne_ hb hn
  exact ⟨fun hb hn => hb.grown hg (hne hb hn), h.inu.grownOw h.kept hg (by decide)⟩
end
theorem elemHdr2 : ElemOf Try.prog 61 23 (.slice none 0 0) 1 24 := elemHdr
theorem elemBo : ElemOf Try.prog 46 4 (.bool false) 1 1 := ElemOf.mk' Try.underlying46 (by kernel_rfl) rfl (by decide)
theorem boolV_one (b : Bool) : (boolV b).oneCell' = true := rfl
section
variable {w w' : World}
set_option maxRecDepth 100000 in
set_option maxHeartbeats 20000000 in
theorem rnew_any (many : Nat) (room : Int) (w : World) (hm : many ≤ 4096) : Calls Try.prog 46 #[.int .i64 (many : Nat), .int .i64 room] w fun e w' => ∃ d go KA IA ck ci gs, e = .returned (.pointer (some ⟨d, 0, none⟩)) ∧ gs.length = many ∧ RNewAt w' w.heap.size d go KA IA ck ci gs (List.replicate (many * 128) 0) (List.replicate many false) room ∧ Below w.heap.size w w' := by
  have hz : ∀ j, j < many → Hid (secOf (List.replicate (many * 128) (0 : UInt8)) (j : Int) = List.replicate 128 0) := fun j hj => by
    show _ = _
    unfold secOf
    rw [List.drop_replicate, List.take_replicate]
    congr 1; omega
  have hmk : ∀ W : World, (Instr.makeSlice 23 (.int .i64 128) (.int .i64 128)).run Try.prog W = .ok (.slice (some ⟨W.heap.size, 0, none⟩) 128 128) (W.alloc (.cells (madeCells (Value.int .u8 0).cells 128) 5)) := run_make_one elemB 128 (by omega) (by omega)
  have hmc : (madeCells (Value.int .u8 0).cells 128) = ((List.replicate 128 (0 : UInt8)).map bv).toArray := by kernel_rfl
  rw [hmc] at hmk
  clear hmc
  obtain ⟨Z, hZ⟩ : ∃ Z, (List.replicate 128 (0 : UInt8)).map bv = Z := ⟨_, rfl⟩
  rw [hZ] at hmk
  have HZ := Lib.hid hZ
  have HZZ := Lib.hid hz
  clear hZ hz
  go_enter Try.func46, Try.ntmps46
  go_wp2
  have b0 : Below w.heap.size w ((w.alloc (.cells #[.int .i64 0, .int .i64 0, .int .i64 0] 3)).alloc (.cells #[.slice none 0 0, .slice none 0 0, .slice none 0 0, .int .i64 room, .int .i64 (-1), .bool false, .slice (some ⟨w.heap.size, 0, none⟩) 3 3] 65)) := (by (repeat' (first | (with_reducible exact Below.refl _ _) | (with_reducible assumption) | (with_reducible refine Below.drew ?_) | (with_reducible refine below_drewN ?_ _) | (with_reducible refine Below.alloc ?_ ?_ _) | (with_reducible refine Below.setCell ?_ ?_ _) | omega | (simp; done) | (simp; omega))))
  go_loopw [6] (fun i wr => ∃ (k : Nat) (KA IA : Option Addr) (ck ci : Nat) (gs : List Nat), k ≤ many ∧ i = .int .i64 (k : Nat) ∧ gs.length = k ∧ RNewAt wr w.heap.size (w.heap.size + 1) w.heap.size KA IA ck ci gs (List.replicate (many * 128) 0) (List.replicate k false) room ∧ Below w.heap.size w wr) (fun i _ => many - (intOf i).toNat)
  case atStart => exact ⟨0, none, none, 0, 0, [], by omega, rfl, rfl, ⟨Blk.top _ (by simp) rfl, Ow.nil _ _ _ _, Ow.nil _ _ _ _, (Blk.top _ rfl rfl : Blk (w.alloc (.cells #[.int .i64 0, .int .i64 0, .int .i64 0] 3)) w.heap.size 3 _).alloc _, fun j g hg => (by simp at hg), List.nodup_nil, by omega, by omega⟩, b0⟩
  case round =>
    obtain ⟨k, KA, IA, ck, ci, gs, hk, rfl, hgs, hR, hbel⟩ := hrel
    by_cases hlt : k < many
    · have hbs := hbel.size
      have c0 : wr.cell? ⟨w.heap.size + 1, 0, none⟩ = some (.slice KA gs.length ck) := hR.st.cell 0
      have c1 : wr.cell? ⟨w.heap.size + 1, 1, none⟩ = some (.slice IA gs.length ci) := hR.st.cell 1
      have f0 := hR.st.frozen 0
      have ld := hR.st.lt
      have hst := hR.st
      have hkp := hR.kept
      have hdne := hR.kept.ne_ hR.st (by decide)
      have HR := Lib.hid hR
      have HG := Lib.hid hgs
      have hgl : gs.length ≤ 4096 := by omega
      have hro : Hid (rowsOf gs ++ [⟨some ⟨wr.heap.size, 0, none⟩, 128, 128⟩] = rowsOf (gs ++ [wr.heap.size])) := by show _ = _; simp [rowsOf]
      clear hR hgs
      generalize hdn : w.heap.size + 1 = dn at *
      have HDN := Lib.hid hdn
      clear hdn
      go_wp2_with fail
      go_region_law ((refine step_app rfl rfl elemHdr slV_one (s := .tmp 20) (N := gs.length + 1) (L := rowsOf (gs ++ [wr.heap.size])) rfl (hkp.below (b := wr.heap.size) (by (repeat' (first | (with_reducible exact Below.refl _ _) | (with_reducible assumption) | (with_reducible refine Below.drew ?_) | (with_reducible refine below_drewN ?_ _) | (with_reducible refine Below.alloc ?_ ?_ _) | (with_reducible refine Below.setCell ?_ ?_ _) | omega | (simp; done) | (simp; omega)))) (Nat.le_refl _)) rfl (k := [⟨some ⟨wr.heap.size, 0, none⟩, 128, 128⟩]) (Rd.drew' (Rd.of_block (enc := slV) (w := (wr.alloc (.cells Z.toArray 5)).alloc (.cells #[.slice (some ⟨wr.heap.size, 0, none⟩) 128 128] 23)) (l := ([⟨some ⟨wr.heap.size, 0, none⟩, 128, 128⟩] : List SlV)) (heap_top _ _ (by simp)) rfl)) rfl hro.out (by unfold maxLen; omega) (by omega) (by simp; omega) ?_; intro A5 c5 w5 hown5 hg5 hat5 hb5; have x5 := Blk.grown (w' := w5) (((hst.alloc (.cells Z.toArray 5)).alloc (.cells #[.slice (some ⟨wr.heap.size, 0, none⟩) 128 128] 23)).drew) hg5 hdne; have y5 : w5.cell? ⟨dn, 0, none⟩ = some (.slice KA gs.length ck) := x5.cell 0; have f5 := x5.frozen 0; have l5 := x5.lt))
      all_goals
        have bP : Below wr.heap.size wr (((wr.alloc (.cells Z.toArray 5)).alloc (.cells #[.slice (some ⟨wr.heap.size, 0, none⟩) 128 128] 23)).drew) := (by (repeat' (first | (with_reducible exact Below.refl _ _) | (with_reducible assumption) | (with_reducible refine Below.drew ?_) | (with_reducible refine below_drewN ?_ _) | (with_reducible refine Below.alloc ?_ ?_ _) | (with_reducible refine Below.setCell ?_ ?_ _) | omega | (simp; done) | (simp; omega))))
        have hP := HR.out.below bP
        obtain ⟨gb, gi⟩ := hP.grownK hown5 hg5
        have hnew : Blk w5 wr.heap.size 5 Z := gb (Blk.drew (Blk.alloc (Blk.top wr rfl rfl) _)) (by decide)
        have hbel5 := (hbel.trans (bP.mono hbs)).trans hb5
        have goal6 : ∃ w6, w5.setCell ⟨dn, 0, none⟩ (.slice A5 (gs.length + 1) c5) = w6 := ⟨_, rfl⟩
        obtain ⟨w6, hw6⟩ := goal6
        have st6 : Blk w6 dn 65 [.slice A5 (gs.length + 1) c5, .slice IA gs.length ci, .slice none 0 0, .int .i64 room, .int .i64 (-1), .bool false, .slice (some ⟨w.heap.size, 0, none⟩) 3 3] := by rw [← hw6]; exact x5.set_ 0 _
        have kp6 : Ow slV w6 w.heap.size 23 A5 (gs.length + 1) c5 (rowsOf (gs ++ [wr.heap.size])) := by rw [← hw6]; exact hown5.setFar x5 (by decide) 0 _
        have in6 : Ow boolV w6 w.heap.size 4 IA gs.length ci (List.replicate k false) := by rw [← hw6]; exact gi.setFar x5 (by decide) 0 _
        have far6 : ∀ {g : Nat} {t : TypeId} {cs : List Value}, Blk w5 g t cs → t ≠ 65 → Blk w6 g t cs := fun {g t cs} hb hn => by rw [← hw6]; exact hb.far (p := ⟨dn, 0, none⟩) (hb.ne_ x5 hn) _
        have op6 := far6 (gb hP.op (by decide)) (by decide)
        have rw6 : ∀ (j g : Nat), (gs ++ [wr.heap.size])[j]? = some g → w.heap.size ≤ g ∧ Blk w6 g 5 ((secOf (List.replicate (many * 128) (0 : UInt8)) (j : Int)).map bv) := fun j g hj => by
          rcases Nat.lt_or_ge j gs.length with q1 | q1
          · rw [List.getElem?_append_left q1] at hj
            exact ⟨(hP.rows j g hj).1, far6 (gb (hP.rows j g hj).2 (by decide)) (by decide)⟩
          · have e9 : j = gs.length := by
              have := (List.getElem?_eq_some_iff.1 hj).1
              rw [List.length_append, List.length_singleton] at this
              omega
            rw [e9, List.getElem?_append_right (Nat.le_refl _), Nat.sub_self] at hj
            simp only [List.getElem?_cons_zero, Option.some.injEq] at hj
            rw [← hj]
            refine ⟨hbs, ?_⟩
            rw [(HZZ.out j (by rw [e9, HG.out]; exact hlt)).out, HZ.out]
            exact far6 hnew (by decide)
        have nd6 : (gs ++ [wr.heap.size]).Nodup := by
          rw [List.nodup_append]
          refine ⟨HR.out.nd, List.nodup_cons.2 ⟨by simp, List.nodup_nil⟩, fun a ha b hb => ?_⟩
          rw [List.mem_singleton] at hb
          subst hb
          obtain ⟨j, hj⟩ := List.getElem?_of_mem ha
          have := (HR.out.rows j a hj).2.lt
          omega
        have bel6 : Below w.heap.size w w6 := by rw [← hw6]; exact hbel5.setCell (by show w.heap.size ≤ dn; have := HDN.out; omega) _
        have hino : Hid (List.replicate k false ++ [false] = List.replicate (k + 1) false) := by show _ = _; rw [List.replicate_succ']
        have d6 : w6.cell? ⟨dn, 1, none⟩ = some (.slice IA gs.length ci) := st6.cell 1
        have l6 := st6.lt
        have s6 := bel6.size
        have hne6 := in6.ne_ st6 (by decide)
        have KP6 := Lib.hid kp6
        have OP6 := Lib.hid op6
        have RW6 := Lib.hid rw6
        have ND6 := Lib.hid nd6
        have BE6 := Lib.hid bel6
        rw [hw6]
        clear hw6 x5 y5 f5 l5 hown5 hg5 hat5 hb5 bP hP gb gi hnew hbel5 far6 kp6 op6 rw6 nd6 bel6 c0 c1 f0 ld hst hkp hdne hbel
        go_wp2_with (first
          | (at_builtin; refine wpList_app rfl rfl elemBo boolV_one (s := .tmp 30) (N := gs.length + 1) (L := List.replicate (k + 1) false) rfl (in6.below (b := w6.heap.size) (by (repeat' (first | (with_reducible exact Below.refl _ _) | (with_reducible assumption) | (with_reducible refine Below.drew ?_) | (with_reducible refine below_drewN ?_ _) | (with_reducible refine Below.alloc ?_ ?_ _) | (with_reducible refine Below.setCell ?_ ?_ _) | omega | (simp; done) | (simp; omega)))) (Nat.le_refl _)) rfl (k := [false]) (Rd.of_block (enc := boolV) (l := [false]) (heap_top _ _ (by simp)) rfl) rfl hino.out (by unfold maxLen; omega) (by omega) (by simp; omega) ?_; intro A7 c7 w7 hown7 hg7 hat7 hb7; have x7 := Blk.grown (w' := w7) (st6.alloc (.cells #[.bool false] 4)) hg7 hne6; have y7 : w7.cell? ⟨dn, 1, none⟩ = some (.slice IA gs.length ci) := x7.cell 1; have f7 := x7.frozen 1; have l7 := x7.lt)
          | fail "no arm")
        go_roundw
        case rel =>
          have bA : Below w6.heap.size w6 (w6.alloc (.cells #[.bool false] 4)) := (Below.refl _ _).alloc (Nat.le_refl _) _
          have inA := in6.below bA (Nat.le_refl _)
          have gb7 : ∀ {g : Nat} {t : TypeId} {cs : List Value}, Blk w6 g t cs → 4 ≠ t → Blk w7 g t cs := fun hb hn => Blk.grown (hb.alloc _) hg7 (inA.ne_ (hb.alloc _) hn)
          have far7 : ∀ {g : Nat} {t : TypeId} {cs : List Value}, Blk w6 g t cs → 4 ≠ t → t ≠ 65 → Blk (w7.setCell ⟨dn, 1, none⟩ (.slice A7 (gs.length + 1) c7)) g t cs := fun hb hn h2 => (gb7 hb hn).far (p := ⟨dn, 1, none⟩) ((gb7 hb hn).ne_ x7 h2) _
          have hl9 : (gs ++ [wr.heap.size]).length = gs.length + 1 := by simp
          have f1 : RNewAt (w7.setCell ⟨dn, 1, none⟩ (.slice A7 (gs.length + 1) c7)) w.heap.size dn w.heap.size A5 A7 c5 c7 (gs ++ [wr.heap.size]) (List.replicate (many * 128) 0) (List.replicate (k + 1) false) room := by
            refine ⟨?_, ?_, ?_, far7 OP6.out (by decide) (by decide), fun j g hj => ⟨(RW6.out j g hj).1, far7 (RW6.out j g hj).2 (by decide) (by decide)⟩, ND6.out, by have := HDN.out; omega, Nat.le_refl _⟩
            · rw [hl9]; exact x7.set_ 1 _
            · rw [hl9]; exact (((KP6.out.below bA (Nat.le_refl _)).grownOw inA hg7 (by decide)).setFar x7 (by decide) 1 _)
            · rw [hl9]; exact hown7.setFar x7 (by decide) 1 _
          have f2 : Below w.heap.size w (w7.setCell ⟨dn, 1, none⟩ (.slice A7 (gs.length + 1) c7)) := ((BE6.out.trans (bA.mono s6)).trans hb7).setCell (by show w.heap.size ≤ dn; have := HDN.out; omega) _
          have f3 : (gs ++ [wr.heap.size]).length = k + 1 := by rw [hl9, HG.out]
          first
            | exact ⟨k + 1, A5, A7, c5, c7, gs ++ [wr.heap.size], by omega, by go_num, f3, f1, f2⟩
            | ((repeat apply Exists.intro); exact ⟨⟨k + 1, A5, A7, c5, c7, gs ++ [wr.heap.size], by omega, by go_num, f3, f1, f2⟩, rfl⟩)
        case measure => simp [intOf]; omega
    · have hk9 : k = many := by omega
      subst hk9
      go_wp2
      go_ret
      exact ⟨_, _, KA, IA, ck, ci, gs, rfl, hgs, hR, hbel⟩
end
end Go.Proofs.Ytninidpbchcliaa
