/- The document's disk: Flush. -/
import Derived.Test.YtninidpbchcliaaRDiskD
namespace Go.Proofs.Ytninidpbchcliaa
open Go.RowKit
set_option linter.unusedVariables false
set_option linter.unusedSimpArgs false
section
variable {F : Nat → Prop} {w w' : World} {base : Nat} {q : RDiskP} {A : Option Addr} {c ck ci : Nat} {D : DiskV}
theorem Ow.free' {α : Type} {enc : α → Value} {g n c base : Nat} {e : TypeId} {l : List α} (h : Ow enc w base e (some ⟨g, 0, none⟩) n c l) (i : Nat) : w.frozen? ⟨g, i, none⟩ = false := h.free i
/-- A sector's row turned. -/
theorem KeptAt.set_ {gk many n : Nat} {kept L : List UInt8} (h : KeptAt w base gk many ck kept) (hk : kept.length = many * 128) (hn : n < many) {x : SlV} (hx : Whole x) (hb : BytesAt w base x L) (hL : L.length = 128) : KeptAt (w.setCell ⟨gk, n, none⟩ (slV x)) base gk many ck (splice kept (n * 128) L) := by
  obtain ⟨hs, ho, hc⟩ := h
  have hF : ∀ g, g = gk → base ≤ g ∧ ∀ cs, ¬ Blk w g 5 cs := fun g e => by
    subst e
    obtain ⟨cs, hb⟩ := ho.blk (g := g) rfl
    exact ⟨(ho.lt g rfl).1, not_u8 hb (by decide)⟩
  have k : Keep (fun g => g = gk) w (w.setCell ⟨gk, n, none⟩ (slV x)) := Keep.one (grown_setCell _)
  refine ⟨hs.set n x, ho.set n x _ rfl, fun j y hy => ?_⟩
  have hjl : j < many := by
    have := (List.getElem?_eq_some_iff.1 hy).1
    rw [List.length_set, ho.1] at this
    exact this
  rw [secOf_splice hk hL hn hjl]
  rw [List.getElem?_set] at hy
  split at hy
  · rename_i e
    subst e
    rw [if_pos (by rw [ho.1]; exact hn)] at hy
    injection hy with hy
    subst hy
    rw [if_pos rfl]
    exact ⟨hx, hb.keepF k hF⟩
  · rename_i e
    rw [if_neg (fun e' => e e'.symm)]
    exact ⟨(hc j y hy).1, (hc j y hy).2.keepF k hF⟩
theorem WaitAt.nil (w : World) (base : Nat) : WaitAt w base none 0 [] := ⟨[], ⟨rfl, World.ownsRow_nil w base _ 2⟩, fun k x h => by simp at h⟩
set_option maxRecDepth 100000 in
set_option maxHeartbeats 8000000 in
theorem rflush_any (h : RDiskAt w base q A c ck ci D) : Calls Try.prog 74 #[.pointer (some ⟨q.d, 0, none⟩)] w fun e w' => e = .returned (.int .i64 (flushV D).2) ∧ RNext w base q A ck ci (flushV D).1 w' := by
  obtain ⟨c0, c1, c2, c3, c4, c5, c6⟩ := h.cells
  have hm0 := h.ok.many0
  unfold flushV
  cases ho : D.off with
  | true =>
    have hm : mayV D 0 = 50 := by unfold mayV; rw [ho]; rfl
    rw [hm, if_pos (by omega)]
    rw [ho] at c5
    have HH := Lib.hid h
    clear ho hm h
    go_enter Try.func74, Try.ntmps74
    go_wp2
    go_ret
    exact ⟨rfl, RNext.same HH.out (Below.refl _ _)⟩
  | false =>
    have hm : mayV D 0 = 0 := by unfold mayV; rw [ho]; simp; omega
    rw [hm, if_neg (by omega)]
    rw [ho] at c5
    have hC := rgoes_any h ho 2 (.inr rfl)
    rw [show ((2 : Int) + 1) = 3 from rfl] at hC
    have HH := Lib.hid h
    have HO := Lib.hid ho
    by_cases hc0 : D.cut = 0
    · rw [if_pos hc0]
      have hcB : (D.cut == 0) = true := by rw [hc0]; rfl
      rw [hcB] at hC
      clear ho hm h hc0 hcB
      go_enter Try.func74, Try.ntmps74
      go_wp2_with (first
        | (go_at_call 105; (with_reducible refine (hC).mono ?_); rintro e w2 ⟨rfl, h2, k2⟩)
        | fail "no arm")
      go_ret
      exact ⟨rfl, RNext.head h2 k2⟩
    · rw [if_neg hc0]
      have hcB : (D.cut == 0) = false := by rw [beq_eq_false_iff_ne]; exact hc0
      rw [hcB] at hC
      have hcons := h.cons.flush
      have hok := flushV_ok h.ok
      have hfl : flushV D = (flushD (goesV D 3), 0) := by unfold flushV; rw [hm, if_neg (by omega), if_neg hc0]
      rw [hfl] at hcons hok
      have HCO := Lib.hid hcons
      have HOK := Lib.hid hok
      clear ho hm h hc0 hcB hfl hcons hok c0 c1 c2 c3 c4 c6
      generalize goesV D 3 = E at *
      go_enter Try.func74, Try.ntmps74
      go_wp2_with (first
        | ((go_at_call 105; (with_reducible refine (hC).mono ?_); rintro e wg ⟨rfl, hg, kg⟩); have HG := Lib.hid hg; have KG := Lib.hid kg; clear hg kg)
        | fail "no arm")
      clear c5
      obtain ⟨p1, p2, p3, p4, p5, p6, p7, p8, p9, p10⟩ := HG.out.apart
      have hfew := HG.out.ok.few
      have hm1 := HG.out.ok.many1
      go_loopw [3] (fun i wr => ∃ k : Nat, k ≤ E.waits.length ∧ i = .int .i64 (k : Nat) ∧ Keep (fun g => g = q.gk ∨ g = q.gi) wg wr ∧ KeptAt wr base q.gk E.many ck (keepK E.waits (E.kept, E.inuse) k).1 ∧ Ow boolV wr base 4 (some ⟨q.gi, 0, none⟩) E.many ci (keepK E.waits (E.kept, E.inuse) k).2) (fun i _ => E.waits.length - (intOf i).toNat)
      case atStart => exact ⟨0, by omega, rfl, Keep.refl _ _, HG.out.kept, HG.out.inu⟩
      case round =>
        obtain ⟨k, hk, rfl, hkp, hke, hin⟩ := hrel
        have hF : ∀ g, (g = q.gk ∨ g = q.gi) → base ≤ g ∧ ∀ cs, ¬ Blk wg g 5 cs := fun g e => by
          rcases e with e | e
          · subst e
            obtain ⟨hs, ho, _⟩ := HG.out.kept
            obtain ⟨cs, hb⟩ := ho.blk (g := q.gk) rfl
            exact ⟨(ho.lt _ rfl).1, not_u8 hb (by decide)⟩
          · subst e
            obtain ⟨cs, hb⟩ := HG.out.inu.blk (g := q.gi) rfl
            exact ⟨(HG.out.inu.lt _ rfl).1, not_u8 hb (by decide)⟩
        have hst := HG.out.st.keep hkp (fun e => by rcases e with e | e; exact p1 e; exact p2 e)
        have hwt := HG.out.wts.keepF hkp hF (fun g hg e => by rcases e with e | e; exact p8 (e ▸ hg); exact p9 (e ▸ hg))
        have d0 : wr.cell? ⟨q.d, 0, none⟩ = some (.slice (some ⟨q.gk, 0, none⟩) E.many ck) := hst.cell 0
        have d1 : wr.cell? ⟨q.d, 1, none⟩ = some (.slice (some ⟨q.gi, 0, none⟩) E.many ci) := hst.cell 1
        have d2 : wr.cell? ⟨q.d, 2, none⟩ = some (.slice A E.waits.length c) := hst.cell 2
        have KP := Lib.hid hkp
        have KE := Lib.hid hke
        have IN := Lib.hid hin
        have ST := Lib.hid hst
        have WT := Lib.hid hwt
        by_cases hlt : k < E.waits.length
        · obtain ⟨g, x, hA, hg, e0, e1, hxw, hxb⟩ := hwt.piece hlt
          obtain ⟨pl1, pl2⟩ := pieceAt_ok HG.out.ok hlt
          have hnx : Hid (keepK E.waits (E.kept, E.inuse) (k + 1) = (splice (keepK E.waits (E.kept, E.inuse) k).1 ((pieceAt E.waits k).1 * 128) (pieceAt E.waits k).2, (keepK E.waits (E.kept, E.inuse) k).2.set (pieceAt E.waits k).1 true)) := rfl
          have hlen := keepK_len HG.out.ok k hk
          have PL2 := Lib.hid pl2
          generalize keepK E.waits (E.kept, E.inuse) k = S at *
          obtain ⟨S1, S2⟩ := S
          simp only at hlen hnx hke hin KE IN
          generalize (pieceAt E.waits k).1 = n at *
          generalize (pieceAt E.waits k).2 = L at *
          have hset := KE.out.set_ hlen.1 pl1 hxw hxb PL2.out
          have HSET := Lib.hid hset
          have XB := Lib.hid hxb
          have HA := Lib.hid hA
          have fK : wr.frozen? ⟨q.gk, n, none⟩ = false := by obtain ⟨hs, ho, _⟩ := KE.out; exact ho.free n
          have fI : wr.frozen? ⟨q.gi, n, none⟩ = false := IN.out.free n
          obtain ⟨v1, hv1⟩ : ∃ v, wr.cell? ⟨q.gk, n, none⟩ = some v := by
            obtain ⟨hs, ho, _⟩ := KE.out
            obtain ⟨b, o, e2, _, e3⟩ := ho.rd.2.at_ pl1
            injection e2 with e2
            injection e2 with e4 e5 _
            subst e4 e5
            rw [Nat.zero_add] at e3
            exact ⟨_, e3⟩
          obtain ⟨v2, hv2⟩ : ∃ v, wr.cell? ⟨q.gi, n, none⟩ = some v := by
            obtain ⟨b, o, e2, _, e3⟩ := IN.out.rd.2.at_ pl1
            injection e2 with e2
            injection e2 with e4 e5 _
            subst e4 e5
            rw [Nat.zero_add] at e3
            exact ⟨_, e3⟩
          have l1 : q.gk < wr.heap.size := by have := (HG.out.lt q.gk (.inr (.inl rfl))); have := KP.out.size; omega
          have l2 : q.gi < wr.heap.size := by have := (HG.out.lt q.gi (.inr (.inr (.inl rfl)))); have := KP.out.size; omega
          have hgA : g ≠ q.gk ∧ g ≠ q.gi := by
            rw [hA] at p8 p9
            exact ⟨fun e => p8 (by rw [e]; rfl), fun e => p9 (by rw [e]; rfl)⟩
          obtain ⟨ga1, ga2⟩ := hgA
          clear hke hin hst hwt hxb hset hkp p7 p8 p9 p10
          subst hA
          obtain ⟨xa, xn, xc⟩ := x
          simp only [slV] at e1 HSET
          have gkn : q.gk ≠ q.gi := p4
          go_wp2_with fail
          refine wp_region_quiet_tail 21 (by kernel_rfl) (by kernel_rfl) ?_
          simp only [List.take_succ_cons, List.take_zero, List.drop_succ_cons, List.drop_zero]
          repeat (go_big_quiet_step (fail))
          refine wpQuiet_nil ?_
          go_wp2_with fail
          refine wp_region_quiet_tail 13 (by kernel_rfl) (by kernel_rfl) ?_
          simp only [List.take_succ_cons, List.take_zero, List.drop_succ_cons, List.drop_zero]
          repeat (go_big_quiet_step (fail))
          refine wpQuiet_nil ?_
          go_wp2_with fail
          go_roundw
          case rel =>
            have in1 : Ow boolV (wr.setCell ⟨q.gk, n, none⟩ (.slice xa xn xc)) base 4 (some ⟨q.gi, 0, none⟩) E.many ci S2 := ⟨IN.out.1, own_keep (F := fun g => g = q.gk) IN.out.2 (Keep.one (grown_setCell _)) (fun g e e2 => gkn (by rw [← e2]; simpa [Value.ownBlock] using e.symm))⟩
            have ke2 := (HSET.out.keepF (F := fun g => g = q.gi) (w' := (wr.setCell ⟨q.gk, n, none⟩ (.slice xa xn xc)).setCell ⟨q.gi, n, none⟩ (.bool true)) (Keep.one (grown_setCell _)) (fun g e => (by subst e; obtain ⟨cs, hb⟩ := in1.blk (g := q.gi) rfl; exact ⟨(in1.lt _ rfl).1, not_u8 hb (by decide)⟩)) gkn)
            have in2 := in1.set n true (.bool true) rfl
            have b2 : ∀ W : World, Below W.heap.size W W.drew.drew := fun W => Below.drew (Below.drew (Below.refl _ _))
            have f1 : KeptAt (((wr.setCell ⟨q.gk, n, none⟩ (.slice xa xn xc)).setCell ⟨q.gi, n, none⟩ (.bool true)).drew.drew) base q.gk E.many ck (keepK E.waits (E.kept, E.inuse) (k + 1)).1 := by rw [hnx.out]; exact ke2.below (b2 _)
            have f2 : Ow boolV (((wr.setCell ⟨q.gk, n, none⟩ (.slice xa xn xc)).setCell ⟨q.gi, n, none⟩ (.bool true)).drew.drew) base 4 (some ⟨q.gi, 0, none⟩) E.many ci (keepK E.waits (E.kept, E.inuse) (k + 1)).2 := by rw [hnx.out]; exact in2.below (b2 _) (Nat.le_refl _)
            have f3 := (((KP.out.set_ (i := n) (.slice xa xn xc) (.inl rfl)).set_ (i := n) (.bool true) (.inr rfl)).drewN 1).drewN 1
            first
              | exact ⟨k + 1, by omega, by go_num, f3, f1, f2⟩
              | ((repeat apply Exists.intro); exact ⟨⟨k + 1, by omega, by go_num, f3, f1, f2⟩, rfl⟩)
          case measure => simp [intOf]; omega
        · have hk9 : k = E.waits.length := by omega
          subst hk9
          have fd := hst.frozen 2
          have hd9 : q.d < wr.heap.size := hst.lt
          clear hke hin hst hwt hkp
          go_wp2
          go_ret
          refine ⟨rfl, none, 0, ⟨HOK.out, HCO.out, HG.out.ops, ST.out.set_ 2 _, ?_, ?_, WaitAt.nil _ _, ?_, HG.out.bd, HG.out.bo⟩, ?_⟩
          · exact KE.out.keepF (F := fun g => g = q.d) (Keep.one (grown_setCell _)) (fun g e => (by subst e; exact ⟨HG.out.bd, not_u8 ST.out (by decide)⟩)) (fun e => p1 e.symm)
          · exact ⟨IN.out.1, own_keep (F := fun g => g = q.d) IN.out.2 (Keep.one (grown_setCell _)) (fun g e e2 => p2 (by rw [← e2]; simpa [Value.ownBlock] using e.symm))⟩
          · exact (HG.out.op.keep KP.out (fun e => by rcases e with e | e; exact p5 e.symm; exact p6 e.symm)).far (p := ⟨q.d, 2, none⟩) p3.symm _
          · exact ((KG.out.mono (G := fun g => rfoot q A g) (fun g _ e => by rcases e with e | e; exact .inl e; exact .inr (.inr (.inr (.inl e))))).trans KP.out (fun g _ e => by rcases e with e | e; exact .inr (.inl e); exact .inr (.inr (.inl e)))).set_ _ (.inl rfl)
end
end Go.Proofs.Ytninidpbchcliaa
