/- The document's disk: Load. -/
import Derived.Test.YtninidpbchcliaaRDiskG
import Derived.Deep.DeepCutAuto
namespace Go.Proofs.Ytninidpbchcliaa
open Go.RowKit
set_option linter.unusedVariables false
set_option linter.unusedSimpArgs false
/-- The first i bytes of an image, and noughts. -/
def partI (img : List UInt8) (many i : Nat) : List UInt8 := img.take i ++ List.replicate (many * 128 - i) 0
theorem partI_zero (img : List UInt8) (many : Nat) : partI img many 0 = List.replicate (many * 128) 0 := by simp [partI]
theorem partI_len {img : List UInt8} {many i : Nat} (h : i ≤ img.length) (hm : img.length ≤ many * 128) : (partI img many i).length = many * 128 := by
  unfold partI; rw [List.length_append, List.length_take, List.length_replicate]; omega
theorem partI_succ {img : List UInt8} {many i : Nat} (h : i < img.length) (hm : img.length ≤ many * 128) : partI img many (i + 1) = (partI img many i).set i img[i] := by
  unfold partI
  have h1 : (img.take i).length = i := by rw [List.length_take]; omega
  rw [List.set_append_right _ _ (by omega), h1, Nat.sub_self, show many * 128 - i = (many * 128 - (i + 1)) + 1 by omega, List.replicate_succ, List.set_cons_zero, List.take_succ_eq_append_getElem h, List.append_assoc]
  rfl
theorem partI_all {img : List UInt8} {many : Nat} (hm : img.length ≤ many * 128) : partI img many img.length = imgK img many (usedN img) := by
  unfold partI imgK usedN
  rw [List.take_of_length_le (Nat.le_refl _), List.take_of_length_le (by omega), Nat.min_eq_left (by omega)]
theorem secOf_set {l : List UInt8} {many i j : Nat} (hl : l.length = many * 128) (hi : i < many * 128) (hj : j < many) (x : UInt8) : secOf (l.set i x) (j : Int) = if j = i / 128 then (secOf l (j : Int)).set (i % 128) x else secOf l (j : Int) := by
  have h1 : (secOf (l.set i x) (j : Int)).length = 128 := secOf_len (s := many) (by rw [List.length_set]; exact hl) (by omega) (by omega)
  have h2 : (secOf l (j : Int)).length = 128 := secOf_len (s := many) hl (by omega) (by omega)
  have sb : ∀ (l : List UInt8) (i k : Nat) (x : UInt8), i < l.length → byteAt (l.set i x) k = if k = i then x.toNat else byteAt l k := fun l i k x hi => by
    unfold byteAt
    rw [List.getD_eq_getElem?_getD, List.getD_eq_getElem?_getD, List.getElem?_set]
    by_cases q : i = k
    · rw [if_pos q, if_pos hi, if_pos q.symm]; rfl
    · rw [if_neg q, if_neg (fun e => q e.symm)]
  split
  · rename_i e
    refine byte_ext (by rw [h1, List.length_set, h2]) (fun k hk => ?_)
    rw [List.length_set, h2] at hk
    rw [byteAt_sec hk, sb _ _ _ _ (by omega), sb _ _ _ _ (by omega), byteAt_sec hk]
    by_cases q : k = i % 128
    · rw [if_pos (by omega), if_pos q]
    · rw [if_neg (by omega), if_neg q]
  · rename_i e
    refine byte_ext (by rw [h1, h2]) (fun k hk => ?_)
    rw [h2] at hk
    rw [byteAt_sec hk, sb _ _ _ _ (by omega), if_neg (by omega), byteAt_sec hk]
section
variable {w w' : World}
theorem RNewAt.byte {base d go : Nat} {KA IA : Option Addr} {ck ci : Nat} {gs : List Nat} {img : List UInt8} {ins : List Bool} {room : Int} {many i g : Nat} (h : RNewAt w base d go KA IA ck ci gs img ins room) (hl : img.length = many * 128) (hi : i < many * 128) (hg : gs[i / 128]? = some g) (hgs : gs.length = many) (x : UInt8) :
    RNewAt (w.setCell ⟨g, i % 128, none⟩ (.int .u8 (x.toNat : Int))) base d go KA IA ck ci gs (img.set i x) ins room := by
  obtain ⟨hb, hbk⟩ := h.rows _ g hg
  have far : ∀ {g' : Nat} {t : TypeId} {cs : List Value}, Blk w g' t cs → t ≠ 5 → Blk (w.setCell ⟨g, i % 128, none⟩ (.int .u8 (x.toNat : Int))) g' t cs := fun hb2 hn => hb2.far (p := ⟨g, i % 128, none⟩) (hb2.ne_ hbk hn) _
  refine ⟨far h.st (by decide), h.kept.setFar hbk (by decide) _ _, h.inu.setFar hbk (by decide) _ _, far h.op (by decide), fun j g' hj => ⟨(h.rows j g' hj).1, ?_⟩, h.nd, h.bd, h.bo⟩
  have hjm : j < many := by have := (List.getElem?_eq_some_iff.1 hj).1; omega
  rw [secOf_set hl hi hjm x]
  by_cases e : j = i / 128
  · subst e
    rw [hg] at hj
    injection hj with hj
    subst hj
    rw [if_pos rfl, List.map_set]
    exact hbk.set_ (i % 128) (bv x)
  · rw [if_neg e]
    have hne : g' ≠ g := fun e2 => by
      subst e2
      have h1 := (List.getElem?_eq_some_iff.1 hj).1
      have h2 := (List.getElem?_eq_some_iff.1 hg).1
      exact e ((List.getElem?_inj h1 h.nd).1 (hj.trans hg.symm))
    exact (h.rows j g' hj).2.far (p := ⟨g, i % 128, none⟩) hne _
theorem RNewAt.mark {base d go gi n : Nat} {KA : Option Addr} {ck ci : Nat} {gs : List Nat} {img : List UInt8} {ins : List Bool} {room : Int} (h : RNewAt w base d go KA (some ⟨gi, 0, none⟩) ck ci gs img ins room) : RNewAt (w.setCell ⟨gi, n, none⟩ (.bool true)) base d go KA (some ⟨gi, 0, none⟩) ck ci gs img (ins.set n true) room := by
  obtain ⟨cs, hb⟩ := h.inu.blk (g := gi) rfl
  have far : ∀ {g' : Nat} {t : TypeId} {cs : List Value}, Blk w g' t cs → t ≠ 4 → Blk (w.setCell ⟨gi, n, none⟩ (.bool true)) g' t cs := fun hb2 hn => hb2.far (p := ⟨gi, n, none⟩) (hb2.ne_ hb hn) _
  exact ⟨far h.st (by decide), h.kept.setFar hb (by decide) _ _, h.inu.set n true _ rfl, far h.op (by decide), fun j g' hj => ⟨(h.rows j g' hj).1, far (h.rows j g' hj).2 (by decide)⟩, h.nd, h.bd, h.bo⟩
theorem RNewAt.rebase {base base' d go : Nat} {KA IA : Option Addr} {ck ci : Nat} {gs : List Nat} {img : List UInt8} {ins : List Bool} {room : Int} (h : RNewAt w base d go KA IA ck ci gs img ins room) (hb : base' ≤ base) : RNewAt w base' d go KA IA ck ci gs img ins room :=
  ⟨h.st, h.kept.rebase hb, h.inu.rebase hb, h.op, fun j g hg => ⟨Nat.le_trans hb (h.rows j g hg).1, (h.rows j g hg).2⟩, h.nd, Nat.le_trans hb h.bd, Nat.le_trans hb h.bo⟩
/-- It is a disk. -/
theorem RNewAt.disk {base d go gk gi : Nat} {ck ci : Nat} {gs : List Nat} {many k : Nat} {img : List UInt8} {room : Int} (h : RNewAt w base d go (some ⟨gk, 0, none⟩) (some ⟨gi, 0, none⟩) ck ci gs (imgK img many k) (trueK many k) room) (hgs : gs.length = many) (h0 : 1 ≤ many) (h1 : many ≤ 4096) (r0 : 0 ≤ room) (r1 : room ≤ many) (hi : img.length ≤ many * 128) (hk : (k : Int) ≤ room) :
    RDiskAt w base ⟨d, gk, gi, go⟩ none 0 ck ci (loadD many room img k) := by
  refine ⟨loadD_ok h0 h1 r0 r1 hi (by omega), cons_load (by omega) hk, rfl, ?_, ⟨rowsOf gs, ?_, fun j x hx => ?_⟩, ?_, WaitAt.nil _ _, h.op, h.bd, h.bo⟩
  · have := h.st
    rw [hgs] at this
    exact this
  · have := h.kept
    rw [hgs] at this
    exact this
  · unfold rowsOf at hx
    rw [List.getElem?_map] at hx
    cases hg : gs[j]? with
    | none => rw [hg] at hx; cases hx
    | some g =>
      rw [hg] at hx
      simp only [Option.map_some, Option.some.injEq] at hx
      subst hx
      obtain ⟨hb, hbk⟩ := h.rows j g hg
      have hjm : j < many := by have := (List.getElem?_eq_some_iff.1 hg).1; omega
      have hl : (secOf (imgK img many k) (j : Int)).length = 128 := secOf_len (s := many) (imgK_len hi) (by omega) (by omega)
      have hr : RB w (some ⟨g, 0, none⟩) 128 (secOf (imgK img many k) (j : Int)) := by
        have := RB.of_block (l := secOf (imgK img many k) (j : Int)) hbk rfl
        rw [hl] at this
        exact this
      exact ⟨⟨rfl, Nat.le_refl _, by show 128 ≤ maxLen; unfold maxLen; omega⟩, hr, by show 128 ≤ maxLen; unfold maxLen; omega, fun _ g' hg' => (by
        simp only [Option.map_some, Option.some.injEq] at hg'
        subst hg'
        exact .inr ⟨_, hbk⟩)⟩
  · have := h.inu
    rw [hgs] at this
    exact this
/-- What Load answers. -/
def RLdPost (w : World) (D : DiskV) (e : Ending) (w' : World) : Prop := ∃ q : RDiskP, e = .returned (.tuple #[.pointer (some ⟨q.d, 0, none⟩), .int .i64 0]) ∧ (∀ base, base ≤ w.heap.size → RDiskS w' base q D) ∧ w.heap.size ≤ q.gi ∧ Below w.heap.size w w'
set_option maxRecDepth 100000 in
set_option maxHeartbeats 8000000 in
theorem rload_arg (B : Option Addr) (n d : Nat) (sectors room : Int) (w : World) (hn : n ≤ maxLen) (h : sectors < 1 ∨ 4096 < sectors ∨ room < 0 ∨ sectors < room ∨ sectors * 128 < n) : Calls Try.prog 32 #[.slice B n d, .int .i64 sectors, .int .i64 room] w fun e w' => e = .returned (.tuple #[.pointer none, .int .i64 2]) ∧ w = w' := by
  unfold maxLen at hn
  have hc : sectors < 1 ∨ (1 ≤ sectors ∧ 4096 < sectors) ∨ (1 ≤ sectors ∧ sectors ≤ 4096 ∧ room < 0) ∨ (1 ≤ sectors ∧ sectors ≤ 4096 ∧ 0 ≤ room ∧ sectors < room) ∨ (1 ≤ sectors ∧ sectors ≤ 4096 ∧ 0 ≤ room ∧ room ≤ sectors ∧ 128 * sectors < n) := by omega
  clear h
  rcases hc with h1 | ⟨h1, h2⟩ | ⟨h1, h2, h3⟩ | ⟨h1, h2, h3, h4⟩ | ⟨h1, h2, h3, h4, h5⟩
  all_goals
    go_enter Try.func32, Try.ntmps32
    go_wp2
    go_ret2
    exact ⟨rfl, rfl⟩
def cntI (i : Nat) : Nat := (i + 127) / 128
theorem cntI_yes {i : Nat} (h : i % 128 = 0) : cntI (i + 1) = cntI i + 1 ∧ cntI i = i / 128 := by unfold cntI; omega
theorem cntI_no {i : Nat} (h : i % 128 ≠ 0) : cntI (i + 1) = cntI i := by unfold cntI; omega
set_option maxRecDepth 100000 in
set_option maxHeartbeats 20000000 in
theorem rload_any (B : Option Addr) (n d many : Nat) (room : Int) (img : List UInt8) (w : World) (hr : RB w B n img) (h0 : 1 ≤ many) (h1 : many ≤ 4096) (r0 : 0 ≤ room) (r1 : room ≤ many) (hn : n ≤ many * 128) (P : Ending → World → Prop)
    (hyes : (usedN img : Int) ≤ room → ∀ e w', RLdPost w (loadD many room img (usedN img)) e w' → P e w') (hno : room < (usedN img : Int) → ∀ e w', e = .returned (.tuple #[.pointer none, .int .i64 52]) ∧ Below w.heap.size w w' → P e w') :
    Calls Try.prog 32 #[.slice B n d, .int .i64 (many : Nat), .int .i64 room] w P := by
  have hlen := hr.1
  have hnew := rnew_any many room w h1
  have hP0 := Lib.hid (partI_zero img many)
  have hT0 := Lib.hid (show trueK many 0 = List.replicate many false by simp [trueK])
  have HY := Lib.hid hyes
  have HN := Lib.hid hno
  have HLEN := Lib.hid hlen
  have HALL := Lib.hid (partI_all (img := img) (many := many) (by omega))
  have hmI : (1 : Int) ≤ (many : Nat) := by omega
  have hmI2 : ((many : Nat) : Int) ≤ 4096 := by omega
  have hnI : ((n : Nat) : Int) ≤ 128 * ((many : Nat) : Int) := by omega
  clear hyes hno hlen
  go_enter Try.func32, Try.ntmps32
  go_wp2_with (first
    | ((go_at_call 46; (with_reducible refine (hnew).mono ?_); rintro e w1 ⟨dd, go, KA, IA, ck, ci, gs, rfl, hgs, hR, hb1⟩); have HR := Lib.hid hR; have HG := Lib.hid hgs; have B1 := Lib.hid hb1; have s1 := hb1.size; clear hR hgs hb1)
    | fail "no arm")
  have hka := HR.out.kept.addr (by rw [HG.out]; omega)
  have hia := HR.out.inu.addr (by rw [HG.out]; omega)
  obtain ⟨gk, hKA, _, _⟩ := hka
  obtain ⟨gi, hIA, _, _⟩ := hia
  subst hKA hIA
  clear hnew
  go_loopw [9, 10] (fun m i wr => ∃ k : Nat, k ≤ n ∧ i = .int .i64 (k : Nat) ∧ m = .int .i64 (cntI k : Nat) ∧ RNewAt wr w.heap.size dd go (some ⟨gk, 0, none⟩) (some ⟨gi, 0, none⟩) ck ci gs (partI img many k) (trueK many (cntI k)) room ∧ Below w.heap.size w wr) (fun _ i _ => n - (intOf i).toNat)
  case atStart => exact ⟨0, by omega, rfl, rfl, by rw [hP0.out, show cntI 0 = 0 from rfl, hT0.out]; exact HR.out, B1.out⟩
  case round =>
    obtain ⟨k, hk, rfl, rfl, hR, hbel⟩ := hrel
    have hbs := hbel.size
    have hcle : cntI k ≤ 4096 := by unfold cntI; omega
    have hil1 := Nat.le_of_eq HLEN.out
    have hil2 := Nat.le_of_eq HLEN.out.symm
    by_cases hlt : k < n
    · obtain ⟨b1, o1, hB1, hbb, hc1⟩ := (hr.below hbel (Nat.le_refl _)).at_ hlt
      have hkl : k < img.length := by rw [HLEN.out]; exact hlt
      have hjm : k / 128 < many := by omega
      have hgl : k / 128 < gs.length := by rw [HG.out]; exact hjm
      have hgj : gs[k / 128]? = some gs[k / 128] := List.getElem?_eq_getElem hgl
      have hsucc := Lib.hid (partI_succ (many := many) hkl (by omega))
      have hbyte : byteAt img k = img[k].toNat := by unfold byteAt; rw [List.getD_eq_getElem?_getD, List.getElem?_eq_getElem hkl]; rfl
      have hstp := hR.byte (partI_len (by omega) (by omega)) (show k < many * 128 by omega) hgj HG.out img[k]
      rw [← hsucc.out, ← hbyte] at hstp
      obtain ⟨hgb, hgblk⟩ := hR.rows _ _ hgj
      have c0 : wr.cell? ⟨dd, 0, none⟩ = some (.slice (some ⟨gk, 0, none⟩) gs.length ck) := hR.st.cell 0
      have ck0 : wr.cell? ⟨gk, k / 128, none⟩ = some (.slice (some ⟨gs[k / 128], 0, none⟩) 128 128) := by
        obtain ⟨b, o, e1, hlt', hc⟩ := hR.kept.rd.2.at_ hgl
        injection e1 with e1
        injection e1 with e2 e3 _
        subst e2 e3
        rw [Nat.zero_add, getD_map _ _ (by simp [rowsOf]; exact hgl)] at hc
        rw [hc]; simp [rowsOf, slV]
      have hsl : (secOf (partI img many k) ((k / 128 : Nat) : Int)).length = 128 := secOf_len (s := many) (partI_len (by omega) (by omega)) (by omega) (by omega)
      have cg : ∃ v, wr.cell? ⟨gs[k / 128], k % 128, none⟩ = some v := ⟨_, (hgblk.cell (k % 128)).trans (List.getElem?_eq_getElem (by rw [List.length_map, hsl]; omega))⟩
      obtain ⟨v9, cg⟩ := cg
      have fg := hgblk.frozen (k % 128)
      generalize gs[k / 128] = g at *
      have HST := Lib.hid hstp
      have HB := Lib.hid hbel
      have lg := hgblk.lt
      have hq1 : ((k : Int) / 128).toNat = k / 128 := by omega
      have hq2 : (k : Int) / 128 < (gs.length : Nat) := by omega
      have hq3 : 0 ≤ (k : Int) / 128 := by omega
      have hq4 : ((k : Int) % 128).toNat = k % 128 := by omega
      have hq5 : (k : Int) % 128 < 128 := by omega
      have hq6 : 0 ≤ (k : Int) % 128 := by omega
      subst hB1
      clear hstp hbel hgblk hgj hbyte hsl hR
      have bel2 : Below w.heap.size w ((wr.setCell ⟨g, k % 128, none⟩ (.int .u8 ((byteAt img k : Nat) : Int))).drew) := (HB.out.setCell hgb _).drew
      have R2 := HST.out.below (Below.drew (Below.refl (wr.setCell ⟨g, k % 128, none⟩ (.int .u8 ((byteAt img k : Nat) : Int))).heap.size (wr.setCell ⟨g, k % 128, none⟩ (.int .u8 ((byteAt img k : Nat) : Int)))))
      have R2H := Lib.hid R2
      have BEL2 := Lib.hid bel2
      have HGI := Lib.hid hgl
      clear R2 bel2
      by_cases hm0 : k % 128 = 0
      · have hm0B : ((k : Int) % 128 == 0) = true := by rw [beq_iff_eq]; omega
        obtain ⟨hy1, hy2⟩ := cntI_yes hm0
        have hset : Hid ((trueK many (cntI k)).set (k / 128) true = trueK many (cntI (k + 1))) := by show _ = _; rw [hy1, ← hy2]; exact trueK_succ (by omega)
        have hcnt := Lib.hid hy1
        clear hy1 hy2 hm0
        go_wp2_with fail
        refine wp_region_quiet_tail 15 (by kernel_rfl) (by kernel_rfl) ?_
        simp only [List.take_succ_cons, List.take_zero, List.drop_succ_cons, List.drop_zero]
        repeat (go_big_quiet_step (fail))
        refine wpQuiet_nil ?_
        go_upto_region 9 with fail
        refine code_world (fun W => RNewAt W w.heap.size dd go (some ⟨gk, 0, none⟩) (some ⟨gi, 0, none⟩) ck ci gs (partI img many (k + 1)) (trueK many (cntI k)) room ∧ Below w.heap.size w W) ⟨R2H.out, BEL2.out⟩ ?_
        intro w2 ⟨hR2, hb2⟩
        have c1 : w2.cell? ⟨dd, 1, none⟩ = some (.slice (some ⟨gi, 0, none⟩) gs.length ci) := hR2.st.cell 1
        have fgi := hR2.inu.free (k / 128)
        obtain ⟨v2, hv2⟩ : ∃ v, w2.cell? ⟨gi, k / 128, none⟩ = some v := by
          obtain ⟨b, o, e2, _, e3⟩ := hR2.inu.rd.2.at_ HGI.out
          injection e2 with e2
          injection e2 with e4 e5 _
          subst e4 e5
          rw [Nat.zero_add] at e3
          exact ⟨_, e3⟩
        have hgib := (hR2.inu.lt gi rfl).1
        have HR2 := Lib.hid hR2
        have HB2 := Lib.hid hb2
        clear hR2 hb2 c0 ck0 cg fg lg
        go_wp2_with fail
        go_roundw
        case rel =>
          have f1 : RNewAt (w2.setCell ⟨gi, k / 128, none⟩ (.bool true)) w.heap.size dd go (some ⟨gk, 0, none⟩) (some ⟨gi, 0, none⟩) ck ci gs (partI img many (k + 1)) (trueK many (cntI (k + 1))) room := by rw [← hset.out]; exact HR2.out.mark
          have f2 : Below w.heap.size w (w2.setCell ⟨gi, k / 128, none⟩ (.bool true)) := HB2.out.setCell hgib _
          have f3 : Value.int .i64 ((cntI k : Int) + 1) = .int .i64 (cntI (k + 1) : Nat) := by rw [hcnt.out]; go_num
          first
            | exact ⟨k + 1, by omega, by go_num, f3, f1, f2⟩
            | ((repeat apply Exists.intro); exact ⟨⟨k + 1, by omega, by go_num, f3, f1, f2⟩, rfl⟩)
        case measure => simp [intOf]; omega
      · have hm0B : ((k : Int) % 128 == 0) = false := by rw [beq_eq_false_iff_ne]; omega
        have hcnt := Lib.hid (cntI_no hm0)
        clear hm0
        go_wp2_with fail
        refine wp_region_quiet_tail 15 (by kernel_rfl) (by kernel_rfl) ?_
        simp only [List.take_succ_cons, List.take_zero, List.drop_succ_cons, List.drop_zero]
        repeat (go_big_quiet_step (fail))
        refine wpQuiet_nil ?_
        go_wp2_with fail
        go_roundw
        case rel =>
          have f1 := R2H.out
          have f2 := BEL2.out
          rw [← hcnt.out] at f1
          have f3 : Value.int .i64 (cntI k : Nat) = .int .i64 (cntI (k + 1) : Nat) := by rw [hcnt.out]
          first
            | exact ⟨k + 1, by omega, by go_num, f3, f1, f2⟩
            | ((repeat apply Exists.intro); exact ⟨⟨k + 1, by omega, by go_num, f3, f1, f2⟩, rfl⟩)
        case measure => simp [intOf]; omega
    · have hk9 : k = img.length := by omega
      have hu : Hid (cntI k = usedN img) := by show _ = _; rw [hk9]; rfl
      rw [hk9, HALL.out, show cntI img.length = usedN img from rfl] at hR
      have HRR := Lib.hid hR
      have HB := Lib.hid hbel
      clear hR hbel hk9
      rw [hu.out] at hcle ⊢
      by_cases hroom : (usedN img : Int) ≤ room
      · have hB9 : decide (room < ((usedN img : Nat) : Int)) = false := by rw [decide_eq_false_iff_not]; omega
        have hHR := Lib.hid hroom
        clear hroom
        generalize hun : usedN img = un at *
        have HUN := Lib.hid hun
        clear hun
        go_wp2_with fail
        exact HY.out hHR.out _ _ ⟨⟨dd, gk, gi, go⟩, rfl, fun base hb => ⟨none, 0, ck, ci, (HRR.out.rebase hb).disk HG.out h0 h1 r0 r1 (by omega) hHR.out⟩, (HRR.out.inu.lt gi rfl).1, HB.out⟩
      · have hB9 : decide (room < ((usedN img : Nat) : Int)) = true := by rw [decide_eq_true_iff]; omega
        have hHR := Lib.hid (show room < (usedN img : Int) by omega)
        clear hroom
        generalize hun : usedN img = un at *
        have HUN := Lib.hid hun
        clear hun
        go_wp2_with fail
        exact HN.out hHR.out _ _ ⟨rfl, HB.out⟩
end
end Go.Proofs.Ytninidpbchcliaa
