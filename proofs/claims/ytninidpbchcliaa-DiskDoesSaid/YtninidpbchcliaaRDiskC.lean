/- The document's disk: its counts, its power; Read. -/
import Derived.Test.YtninidpbchcliaaRDiskB
namespace Go.Proofs.Ytninidpbchcliaa
open Go.RowKit
set_option linter.unusedVariables false
set_option linter.unusedSimpArgs false
theorem opsC_add {o : List Int} (h : o.length = 6) (K : Nat) (hK : K < 3) : (opsC o).set K (.int .i64 (wrap64 (mGet o ((K : Int) + 1) + 1))) = opsC (mAdd o ((K : Int) + 1) 1) := by
  match o, h with
  | [a, b, c, d, e, f], _ =>
    match K, hK with
    | 0, _ => rfl
    | 1, _ => rfl
    | 2, _ => rfl
theorem mAdd_len (o : List Int) (k n : Int) : (mAdd o k n).length = o.length := by unfold mAdd; split; exact mPut_len _ _ _; rfl
section
variable {F : Nat → Prop} {w w' : World} {base : Nat} {q : RDiskP} {A : Option Addr} {c ck ci : Nat} {D : DiskV}
theorem BytesAt.keepF {h : SlV} {L : List UInt8} (H : BytesAt w base h L) (k : Keep F w w') (hF : ∀ g, F g → base ≤ g ∧ ∀ cs, ¬ Blk w g 5 cs) : BytesAt w' base h L := by
  have hne : ∀ g, 0 < h.n → h.a.map (·.block) = some g → ¬ F g := fun g h0 hg e => by
    obtain ⟨q1, q2⟩ := hF g e
    rcases H.2.2 h0 g hg with q | ⟨cs, q⟩
    · omega
    · exact q2 cs q
  refine ⟨⟨H.1.1, fun h0 => (H.1.2.sameB k.size (fun b hb hlt => k.block b hlt (hne b h0 hb))) h0⟩, H.2.1, fun h0 g hg' => ?_⟩
  rcases H.2.2 h0 g hg' with q | ⟨cs, q⟩
  · exact .inl q
  · exact .inr ⟨cs, q.keep k (hne g h0 hg')⟩
theorem KeptAt.keepF {gk many : Nat} {kept : List UInt8} (h : KeptAt w base gk many ck kept) (k : Keep F w w') (hF : ∀ g, F g → base ≤ g ∧ ∀ cs, ¬ Blk w g 5 cs) (hg : ¬ F gk) : KeptAt w' base gk many ck kept := by
  obtain ⟨hs, ho, hk⟩ := h
  exact ⟨hs, ⟨ho.1, own_keep ho.2 k (fun g e => (by have : gk = g := (by simpa [Value.ownBlock] using e); rw [← this]; exact hg))⟩, fun j x hx => ⟨(hk j x hx).1, (hk j x hx).2.keepF k hF⟩⟩
theorem WaitAt.keepF {W : List (Nat × List UInt8)} (h : WaitAt w base A c W) (k : Keep F w w') (hF : ∀ g, F g → base ≤ g ∧ ∀ cs, ¬ Blk w g 5 cs) (hg : ∀ g, A.map (·.block) = some g → ¬ F g) : WaitAt w' base A c W := by
  obtain ⟨ps, ho, hk⟩ := h
  exact ⟨ps, ⟨ho.1, own_keep ho.2 k (fun g e => hg g (by cases A with | none => simp [Value.ownBlock] at e | some a => simpa [Value.ownBlock] using e))⟩, fun j x hx => by obtain ⟨L, h1, h2, h3⟩ := hk j x hx; exact ⟨L, h1, h2, h3.keepF k hF⟩⟩
theorem not_u8 {g : Nat} {t : TypeId} {cs : List Value} (h : Blk w g t cs) (ht : t ≠ 5) : ∀ cs', ¬ Blk w g 5 cs' := fun cs' e => absurd rfl (h.ne_ e ht)
/-- The struct and the counts turned. -/
theorem RDiskAt.turnHead {cut : Int} {off : Bool} {o : List Int} (h : RDiskAt w base q A c ck ci D) (k : Keep (fun g => g = q.d ∨ g = q.go) w w') (hst : Blk w' q.d 65 (rdC q D.many ck ci A D.waits.length c D.room cut off)) (hop : Blk w' q.go 3 (opsC o)) (ho : o.length = 6) (hc : -1 ≤ cut ∧ cut ≤ 9223372036854775807) :
    RDiskAt w' base q A c ck ci { D with cut := cut, off := off, ops := o } := by
  obtain ⟨p1, p2, p3, p4, p5, p6, p7, p8, p9, p10⟩ := h.apart
  have hF : ∀ g, (g = q.d ∨ g = q.go) → base ≤ g ∧ ∀ cs, ¬ Blk w g 5 cs := fun g e => by
    rcases e with e | e
    · subst e; exact ⟨h.bd, not_u8 h.st (by decide)⟩
    · subst e; exact ⟨h.bo, not_u8 h.op (by decide)⟩
  refine ⟨⟨h.ok.many0, h.ok.many1, h.ok.kept, h.ok.now, h.ok.inuse, h.ok.might, h.ok.waits, h.ok.room, hc, h.ok.few⟩, ⟨h.cons.now, h.cons.might, h.cons.used⟩, ho, hst, h.kept.keepF k hF (by omega), ⟨h.inu.1, own_keep h.inu.2 k (fun g e => (by have : q.gi = g := (by simpa [Value.ownBlock] using e); intro e9; rcases e9 with e9 | e9 <;> omega))⟩, h.wts.keepF k hF (fun g hg e => ?_), hop, h.bd, h.bo⟩
  rcases e with e | e
  · subst e; exact p7 hg
  · subst e; exact p10 hg
set_option maxRecDepth 100000 in
set_option maxHeartbeats 4000000 in
theorem rgoes_any (h : RDiskAt w base q A c ck ci D) (hoff : D.off = false) (K : Int) (hK : K = 1 ∨ K = 2) : Calls Try.prog 105 #[.pointer (some ⟨q.d, 0, none⟩), .int .i64 K] w fun e w' => e = .returned (.bool (D.cut == 0)) ∧ RDiskAt w' base q A c ck ci (goesV D (K + 1)) ∧ Keep (fun g => g = q.d ∨ g = q.go) w w' := by
  obtain ⟨c0, c1, c2, c3, c4, c5, c6⟩ := h.cells
  have o0 : w.cell? ⟨q.go, 0, none⟩ = some (.int .i64 (mGet D.ops 1)) := h.op.cell 0
  have o1 : w.cell? ⟨q.go, 1, none⟩ = some (.int .i64 (mGet D.ops 2)) := h.op.cell 1
  have o2 : w.cell? ⟨q.go, 2, none⟩ = some (.int .i64 (mGet D.ops 3)) := h.op.cell 2
  have f0 := h.op.frozen
  have f1 := h.st.frozen
  have hne : q.d ≠ q.go := h.apart.2.2.1
  have hl1 := h.st.lt
  have hl2 := h.op.lt
  have hcut := h.ok.cut
  have HH := Lib.hid h
  have hset := fun (j : Nat) (hj : j < 3) => opsC_add h.ops j hj
  have HS := Lib.hid hset
  have HO := Lib.hid hoff
  have hst1 := Blk.cell h.st 5
  clear hst1
  have hstF : rdC q D.many ck ci A D.waits.length c D.room D.cut D.off = rdC q D.many ck ci A D.waits.length c D.room D.cut false := by rw [hoff]
  have HSTF := Lib.hid hstF
  rw [hoff] at c5
  have key : ∀ (W : World) (j : Nat) (cut : Int) (off : Bool), j < 3 → Keep (fun g => g = q.d ∨ g = q.go) w W → Blk W q.d 65 (rdC q D.many ck ci A D.waits.length c D.room cut off) → Blk W q.go 3 ((opsC D.ops).set j (.int .i64 (wrap64 (mGet D.ops ((j : Int) + 1) + 1)))) → (-1 ≤ cut ∧ cut ≤ 9223372036854775807) → cut = (if 0 ≤ D.cut then D.cut - 1 else D.cut) → off = (D.cut == 0) → RDiskAt W base q A c ck ci (goesV D ((j : Int) + 1)) := fun W j cut off hj k hst hop hc e1 e2 => by
    rw [HS.out j hj] at hop
    have := HH.out.turnHead k hst hop (by rw [mAdd_len]; exact HH.out.ops) hc
    subst e1 e2
    exact this
  have HK := Lib.hid key
  clear h hoff hset key hstF
  have hneg : D.cut < 0 ∨ (D.cut = 0 ∨ 0 < D.cut) := by omega
  obtain ⟨ct, hct⟩ : ∃ ct, D.cut = ct := ⟨_, rfl⟩
  rw [hct] at hneg hcut c4
  have HC := Lib.hid hct
  clear hct
  have hst := HH.out.st
  rw [HSTF.out, HC.out] at hst
  have HST := Lib.hid hst
  have HOP := Lib.hid HH.out.op
  clear hst
  rcases hK with rfl | rfl
  · rcases hneg with h1 | h1 | h1
    · have h9 := h1
      have hres := Lib.hid (show (D.cut == 0) = false from (by rw [HC.out, beq_eq_false_iff_ne]; omega))
      go_enter Try.func105, Try.ntmps105
      go_wp2_with fail
      refine wp_region_quiet_tail 14 (by kernel_rfl) (by kernel_rfl) ?_
      simp only [List.take_succ_cons, List.take_zero, List.drop_succ_cons, List.drop_zero]
      repeat (go_big_quiet_step (fail))
      refine wpQuiet_nil ?_
      go_wp2
      go_ret
      exact ⟨ret_bool hres.out.symm, HK.out _ 1 (ct) false (by omega) (((Keep.refl _ w).set_ _ (.inr rfl)).drewN 1) ((HST.out.far (p := ⟨q.go, 1, none⟩) hne _).drew) ((HOP.out.set_ 1 _).drew) (by omega) (by rw [HC.out]; split <;> omega) hres.out.symm, ((Keep.refl _ w).set_ _ (.inr rfl)).drewN 1⟩
    · have h9 := h1
      subst h1
      have hres := Lib.hid (show (D.cut == 0) = true from (by rw [HC.out]; rfl))
      go_enter Try.func105, Try.ntmps105
      go_wp2_with fail
      refine wp_region_quiet_tail 14 (by kernel_rfl) (by kernel_rfl) ?_
      simp only [List.take_succ_cons, List.take_zero, List.drop_succ_cons, List.drop_zero]
      repeat (go_big_quiet_step (fail))
      refine wpQuiet_nil ?_
      go_wp2
      go_ret
      exact ⟨ret_bool hres.out.symm, HK.out _ 1 (-1) true (by omega) (((((Keep.refl _ w).set_ _ (.inr rfl)).set_ _ (.inl rfl)).set_ _ (.inl rfl)).drewN 1) ((((HST.out.far (p := ⟨q.go, 1, none⟩) hne _).set_ 4 _).set_ 5 _).drew) ((((HOP.out.set_ 1 _).far (p := ⟨q.d, 4, none⟩) hne.symm _).far (p := ⟨q.d, 5, none⟩) hne.symm _).drew) (by omega) (by rw [HC.out]; split <;> omega) hres.out.symm, ((((Keep.refl _ w).set_ _ (.inr rfl)).set_ _ (.inl rfl)).set_ _ (.inl rfl)).drewN 1⟩
    · have h9 : decide (ct - 1 < 0) = false := by rw [decide_eq_false_iff_not]; omega
      have hres := Lib.hid (show (D.cut == 0) = false from (by rw [HC.out, beq_eq_false_iff_ne]; omega))
      go_enter Try.func105, Try.ntmps105
      go_wp2_with fail
      refine wp_region_quiet_tail 14 (by kernel_rfl) (by kernel_rfl) ?_
      simp only [List.take_succ_cons, List.take_zero, List.drop_succ_cons, List.drop_zero]
      repeat (go_big_quiet_step (fail))
      refine wpQuiet_nil ?_
      go_wp2
      go_ret
      exact ⟨ret_bool hres.out.symm, HK.out _ 1 (ct - 1) false (by omega) (((((Keep.refl _ w).set_ _ (.inr rfl)).set_ _ (.inl rfl)).set_ _ (.inl rfl)).drewN 1) ((((HST.out.far (p := ⟨q.go, 1, none⟩) hne _).set_ 4 _).set_ 5 _).drew) ((((HOP.out.set_ 1 _).far (p := ⟨q.d, 4, none⟩) hne.symm _).far (p := ⟨q.d, 5, none⟩) hne.symm _).drew) (by omega) (by rw [HC.out]; split <;> omega) hres.out.symm, ((((Keep.refl _ w).set_ _ (.inr rfl)).set_ _ (.inl rfl)).set_ _ (.inl rfl)).drewN 1⟩
  · rcases hneg with h1 | h1 | h1
    · have h9 := h1
      have hres := Lib.hid (show (D.cut == 0) = false from (by rw [HC.out, beq_eq_false_iff_ne]; omega))
      go_enter Try.func105, Try.ntmps105
      go_wp2_with fail
      refine wp_region_quiet_tail 14 (by kernel_rfl) (by kernel_rfl) ?_
      simp only [List.take_succ_cons, List.take_zero, List.drop_succ_cons, List.drop_zero]
      repeat (go_big_quiet_step (fail))
      refine wpQuiet_nil ?_
      go_wp2
      go_ret
      exact ⟨ret_bool hres.out.symm, HK.out _ 2 (ct) false (by omega) (((Keep.refl _ w).set_ _ (.inr rfl)).drewN 1) ((HST.out.far (p := ⟨q.go, 2, none⟩) hne _).drew) ((HOP.out.set_ 2 _).drew) (by omega) (by rw [HC.out]; split <;> omega) hres.out.symm, ((Keep.refl _ w).set_ _ (.inr rfl)).drewN 1⟩
    · have h9 := h1
      subst h1
      have hres := Lib.hid (show (D.cut == 0) = true from (by rw [HC.out]; rfl))
      go_enter Try.func105, Try.ntmps105
      go_wp2_with fail
      refine wp_region_quiet_tail 14 (by kernel_rfl) (by kernel_rfl) ?_
      simp only [List.take_succ_cons, List.take_zero, List.drop_succ_cons, List.drop_zero]
      repeat (go_big_quiet_step (fail))
      refine wpQuiet_nil ?_
      go_wp2
      go_ret
      exact ⟨ret_bool hres.out.symm, HK.out _ 2 (-1) true (by omega) (((((Keep.refl _ w).set_ _ (.inr rfl)).set_ _ (.inl rfl)).set_ _ (.inl rfl)).drewN 1) ((((HST.out.far (p := ⟨q.go, 2, none⟩) hne _).set_ 4 _).set_ 5 _).drew) ((((HOP.out.set_ 2 _).far (p := ⟨q.d, 4, none⟩) hne.symm _).far (p := ⟨q.d, 5, none⟩) hne.symm _).drew) (by omega) (by rw [HC.out]; split <;> omega) hres.out.symm, ((((Keep.refl _ w).set_ _ (.inr rfl)).set_ _ (.inl rfl)).set_ _ (.inl rfl)).drewN 1⟩
    · have h9 : decide (ct - 1 < 0) = false := by rw [decide_eq_false_iff_not]; omega
      have hres := Lib.hid (show (D.cut == 0) = false from (by rw [HC.out, beq_eq_false_iff_ne]; omega))
      go_enter Try.func105, Try.ntmps105
      go_wp2_with fail
      refine wp_region_quiet_tail 14 (by kernel_rfl) (by kernel_rfl) ?_
      simp only [List.take_succ_cons, List.take_zero, List.drop_succ_cons, List.drop_zero]
      repeat (go_big_quiet_step (fail))
      refine wpQuiet_nil ?_
      go_wp2
      go_ret
      exact ⟨ret_bool hres.out.symm, HK.out _ 2 (ct - 1) false (by omega) (((((Keep.refl _ w).set_ _ (.inr rfl)).set_ _ (.inl rfl)).set_ _ (.inl rfl)).drewN 1) ((((HST.out.far (p := ⟨q.go, 2, none⟩) hne _).set_ 4 _).set_ 5 _).drew) ((((HOP.out.set_ 2 _).far (p := ⟨q.d, 4, none⟩) hne.symm _).far (p := ⟨q.d, 5, none⟩) hne.symm _).drew) (by omega) (by rw [HC.out]; split <;> omega) hres.out.symm, ((((Keep.refl _ w).set_ _ (.inr rfl)).set_ _ (.inl rfl)).set_ _ (.inl rfl)).drewN 1⟩
set_option maxRecDepth 100000 in
theorem rcut_any (h : RDiskAt w base q A c ck ci D) (n : Int) (hn : n ≤ 9223372036854775807) : Calls Try.prog 76 #[.pointer (some ⟨q.d, 0, none⟩), .int .i64 n] w fun e w' => e = .returned (.tuple #[]) ∧ RDiskAt w' base q A c ck ci { D with cut := max n (-1) } ∧ Keep (fun g => g = q.d ∨ g = q.go) w w' := by
  obtain ⟨c0, c1, c2, c3, c4, c5, c6⟩ := h.cells
  have f1 := h.st.frozen 4
  have hne : q.d ≠ q.go := h.apart.2.2.1
  have hl1 := h.st.lt
  have HH := Lib.hid h
  have key : ∀ (W : World), Keep (fun g => g = q.d ∨ g = q.go) w W → Blk W q.d 65 (rdC q D.many ck ci A D.waits.length c D.room (max n (-1)) D.off) → Blk W q.go 3 (opsC D.ops) → RDiskAt W base q A c ck ci { D with cut := max n (-1) } := fun W k hst hop => HH.out.turnHead k hst hop HH.out.ops (by omega)
  have HK := Lib.hid key
  clear h key
  by_cases hneg : n < 0
  · have hmx : Hid (max n (-1) = -1) := by show _ = _; omega
    go_enter Try.func76, Try.ntmps76
    go_wp2
    go_end0
    have k : Keep (fun g => g = q.d ∨ g = q.go) w ((w.setCell ⟨q.d, 4, none⟩ (.int .i64 n)).setCell ⟨q.d, 4, none⟩ (.int .i64 (-1))) := ((Keep.refl _ w).set_ _ (.inl rfl)).set_ _ (.inl rfl)
    exact ⟨rfl, HK.out _ k (by rw [hmx.out]; exact (HH.out.st.set_ 4 _).set_ 4 _) ((HH.out.op.far (p := ⟨q.d, 4, none⟩) hne.symm _).far (p := ⟨q.d, 4, none⟩) hne.symm _), k⟩
  · have hmx : Hid (max n (-1) = n) := by show _ = _; omega
    go_enter Try.func76, Try.ntmps76
    go_wp2
    go_end0
    have k : Keep (fun g => g = q.d ∨ g = q.go) w (w.setCell ⟨q.d, 4, none⟩ (.int .i64 n)) := (Keep.refl _ w).set_ _ (.inl rfl)
    exact ⟨rfl, HK.out _ k (by rw [hmx.out]; exact HH.out.st.set_ 4 _) (HH.out.op.far (p := ⟨q.d, 4, none⟩) hne.symm _), k⟩
set_option maxRecDepth 100000 in
set_option maxHeartbeats 4000000 in
theorem rread_no (h : RDiskAt w base q A c ck ci D) (n : Int) (hn : mayV D n ≠ 0) : Calls Try.prog 75 #[.pointer (some ⟨q.d, 0, none⟩), .int .i64 n] w fun e w' => e = .returned (.tuple #[.slice none 0 0, .int .i64 (mayV D n)]) ∧ w = w' := by
  obtain ⟨c0, c1, c2, c3, c4, c5, c6⟩ := h.cells
  unfold mayV at hn ⊢
  clear h
  cases ho : D.off with
  | true =>
    rw [ho] at c5
    simp only [if_true]
    clear hn ho
    go_enter Try.func75, Try.ntmps75
    go_wp2
    go_ret2
    exact ⟨rfl, rfl⟩
  | false =>
    rw [ho] at c5 hn
    simp only [Bool.false_eq_true, if_false] at hn ⊢
    by_cases hr : n < 0 ∨ (D.many : Int) ≤ n
    · rw [if_pos hr]
      have hc : n < 0 ∨ (0 ≤ n ∧ (D.many : Int) ≤ n) := by omega
      clear hn ho hr
      rcases hc with h1 | ⟨h1, h2⟩
      all_goals
        go_enter Try.func75, Try.ntmps75
        go_wp2
        go_ret2
        exact ⟨rfl, rfl⟩
    · rw [if_neg hr] at hn
      exact absurd rfl hn
set_option maxRecDepth 100000 in
set_option maxHeartbeats 4000000 in
theorem rread_yes (h : RDiskAt w base q A c ck ci D) (n : Nat) (hoff : D.off = false) (hn : n < D.many) : Calls Try.prog 75 #[.pointer (some ⟨q.d, 0, none⟩), .int .i64 (n : Nat)] w fun e w' => ∃ x : SlV, e = .returned (.tuple #[slV x, .int .i64 0]) ∧ Whole x ∧ BytesAt w' base x (secOf D.now (n : Int)) ∧ RDiskAt w' base q A c ck ci (readV' D) ∧ Keep (fun g => g = q.d ∨ g = q.go) w w' := by
  obtain ⟨c0, c1, c2, c3, c4, c5, c6⟩ := h.cells
  have o0 : w.cell? ⟨q.go, 0, none⟩ = some (.int .i64 (mGet D.ops 1)) := h.op.cell 0
  have f0 := h.op.frozen 0
  have hne : q.d ≠ q.go := h.apart.2.2.1
  have hl2 := h.op.lt
  rw [hoff] at c5
  have k : Keep (fun g => g = q.d ∨ g = q.go) w ((w.setCell ⟨q.go, 0, none⟩ (.int .i64 (wrap64 (mGet D.ops 1 + 1)))).drew) := ((Keep.refl _ w).set_ _ (.inr rfl)).drewN 1
  have hop : Blk ((w.setCell ⟨q.go, 0, none⟩ (.int .i64 (wrap64 (mGet D.ops 1 + 1)))).drew) q.go 3 ((opsC D.ops).set 0 (.int .i64 (wrap64 (mGet D.ops 1 + 1)))) := (h.op.set_ 0 _).drew
  have hadd : (opsC D.ops).set 0 (.int .i64 (wrap64 (mGet D.ops 1 + 1))) = opsC (mAdd D.ops 1 1) := opsC_add h.ops 0 (by omega)
  rw [hadd] at hop
  have h5 : RDiskAt ((w.setCell ⟨q.go, 0, none⟩ (.int .i64 (wrap64 (mGet D.ops 1 + 1)))).drew) base q A c ck ci (readV' D) := h.turnHead k ((h.st.far (p := ⟨q.go, 0, none⟩) hne _).drew) hop (by rw [mAdd_len]; exact h.ops) h.ok.cut
  have hC := rat_any h5 n hn
  have H5 := Lib.hid h5
  have KK := Lib.hid k
  have hm := h.ok.many1
  clear h h5 k hop hadd hoff
  go_enter Try.func75, Try.ntmps75
  go_wp2_with fail
  refine wp_region_quiet_tail 12 (by kernel_rfl) (by kernel_rfl) ?_
  simp only [List.take_succ_cons, List.take_zero, List.drop_succ_cons, List.drop_zero]
  repeat (go_big_quiet_step (fail))
  refine wpQuiet_nil ?_
  go_wp2_with (first
    | ((go_at_call 106; (with_reducible refine (hC).mono ?_); rintro e w2 ⟨x, rfl, hx, hb, rfl⟩))
    | fail "no arm")
  go_ret2
  exact ⟨x, rfl, hx, hb, H5.out, KK.out⟩
end
end Go.Proofs.Ytninidpbchcliaa
