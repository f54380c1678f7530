/- Parts: RDiskD. -/
import Derived.Test.YtalmdccgpigppaaGreatPr24
import Derived.Test.YtalmdccgpigppaaGreatPr10
import Derived.Deep.DeepCutAuto
namespace Go.Proofs.YtalmdccgpigppaaGreat
open Go.RowKit
set_option linter.unusedVariables false
set_option linter.unusedSimpArgs false
/-- A disk behind a call that may have made its row of pieces anew. -/
def RNext (w : World) (base : Nat) (q : RDiskP) (A : Option Addr) (ck ci : Nat) (D' : DiskV) (w' : World) : Prop := ∃ A' c', RDiskAt w' base q A' c' ck ci D' ∧ Keep (fun g => rfoot q A g) w w'
section
variable {F : Nat → Prop} {w w' : World} {base : Nat} {q : RDiskP} {A : Option Addr} {c ck ci : Nat} {D : DiskV}
theorem RNext.same (h : RDiskAt w base q A c ck ci D) (hb : Below w.heap.size w w') : RNext w base q A ck ci D w' := ⟨A, c, h.below hb, Keep.of_below hb⟩
theorem RNext.head {D' : DiskV} (h : RDiskAt w' base q A c ck ci D') (k : Keep (fun g => g = q.d ∨ g = q.go) w w') : RNext w base q A ck ci D' w' := ⟨A, c, h, k.mono (fun g _ e => by rcases e with e | e; exact .inl e; exact .inr (.inr (.inr (.inl e))))⟩
set_option maxRecDepth 100000 in
set_option maxHeartbeats 4000000 in
theorem rwrite_no (h : RDiskAt w base q A c ck ci D) (n : Int) (B : Option Addr) (m d : Nat) (hn : mayV D n ≠ 0) : Calls Tryz.prog 191 #[.pointer (some ⟨q.d, 0, none⟩), .int .i64 n, .slice B m d] w fun e w' => e = .returned (.int .i64 (mayV D n)) ∧ w = w' := by
  obtain ⟨c0, c1, c2, c3, c4, c5, c6⟩ := h.cells
  unfold mayV at hn ⊢
  clear h
  cases ho : D.off with
  | true =>
    rw [ho] at c5
    simp only [if_true]
    clear hn ho
    go_enter Tryz.func191, Tryz.ntmps191
    go_wp2
    go_ret
    exact ⟨rfl, rfl⟩
  | false =>
    rw [ho] at c5 hn
    simp only [Bool.false_eq_true, if_false] at hn ⊢
    by_cases hr : n < 0 ∨ (D.many : Int) ≤ n
    · rw [if_pos hr]
      have hc : n < 0 ∨ (0 ≤ n ∧ (D.many : Int) ≤ n) := by omega
      clear hn ho hr
      rcases hc with h1 | ⟨h1, h2⟩
      all_goals
        go_enter Tryz.func191, Tryz.ntmps191
        go_wp2
        go_ret
        exact ⟨rfl, rfl⟩
    · rw [if_neg hr] at hn
      exact absurd rfl hn
set_option maxRecDepth 100000 in
set_option maxHeartbeats 4000000 in
theorem rwrite_full (h : RDiskAt w base q A c ck ci D) (k : Nat) (B : Option Addr) (m d : Nat) (hoff : D.off = false) (hk : k < D.many) (hf : fullB D (k : Int) = true) : Calls Tryz.prog 191 #[.pointer (some ⟨q.d, 0, none⟩), .int .i64 (k : Nat), .slice B m d] w fun e w' => e = .returned (.int .i64 52) ∧ Below w.heap.size w w' := by
  obtain ⟨c0, c1, c2, c3, c4, c5, c6⟩ := h.cells
  rw [hoff] at c5
  have hm := h.ok.many1
  have hI := fun n => ris_any (h.drewN n) k hk
  have hU := fun n => rused_any (h.drewN n)
  have hus := h.cons.used
  unfold fullB at hf
  rw [Int.toNat_natCast] at hf
  cases hb : D.might.getD k false with
  | true => rw [hb] at hf; cases hf
  | false =>
    rw [hb] at hf hI
    have hge : decide (D.room ≤ ((trues D.might : Nat) : Int)) = true := by
      rw [decide_eq_true_iff]
      simp only [Bool.not_false, Bool.true_and, beq_iff_eq] at hf
      omega
    clear h hf hb hoff hus
    generalize ((trues D.might : Nat) : Int) = tr at *
    go_enter Tryz.func191, Tryz.ntmps191
    go_wp2_with fail
    go_quiet ((first
      | (go_at_call 224; exact Calls.quiet_of_same ((hI _).mono fun e w' ⟨h1, h2⟩ => ⟨h1, h2.symm⟩))
      | (go_at_call 225; exact Calls.quiet_of_same ((hU _).mono fun e w' ⟨h1, h2⟩ => ⟨h1, h2.symm⟩))))
    go_wp2
    go_ret
    exact ⟨rfl, (by (repeat' (first | (with_reducible exact Below.refl _ _) | (with_reducible assumption) | (with_reducible refine Below.drew ?_) | (with_reducible refine below_drewN ?_ _) | (with_reducible refine Below.alloc ?_ ?_ _) | (with_reducible refine Below.setCell ?_ ?_ _) | omega | (simp; done) | (simp; omega))))⟩
theorem elemRP : ElemOf Tryz.prog 117 169 (.agg #[.int .i64 0, .slice none 0 0]) 2 32 := ElemOf.mk' Tryz.underlying117 (by kernel_rfl) rfl (by decide)
theorem encP_one (x : Nat × SlV) : ∀ u ∈ encP x, u.oneCell' = true := by
  intro u hu
  simp only [encP, List.mem_cons, List.not_mem_nil, or_false] at hu
  rcases hu with rfl | rfl <;> rfl
theorem elemB : ElemOf Tryz.prog 22 5 (.int .u8 0) 1 1 := ElemOf.mk' Tryz.underlying22 (by kernel_rfl) rfl (by decide)
/-- One piece more waits. -/
theorem RDiskAt.turnWaits {A' : Option Addr} {c' : Nat} {W' : List (Nat × List UInt8)} {now' : List UInt8} {might' : List Bool} (h : RDiskAt w base q A c ck ci D) (k : Keep (fun g => A.map (·.block) = some g ∨ g = q.d) w w') (hst : Blk w' q.d 119 (rdC q D.many ck ci A' W'.length c' D.room D.cut D.off)) (hW : WaitAt w' base A' c' W')
    (hok : ({ D with waits := W', now := now', might := might' } : DiskV).Ok) (hc : Cons { D with waits := W', now := now', might := might' }) : RDiskAt w' base q A' c' ck ci { D with waits := W', now := now', might := might' } := by
  obtain ⟨p1, p2, p3, p4, p5, p6, p7, p8, p9, p10⟩ := h.apart
  have hF : ∀ g, (A.map (·.block) = some g ∨ g = q.d) → base ≤ g ∧ ∀ cs, ¬ Blk w g 5 cs := fun g e => by
    rcases e with e | e
    · refine ⟨h.bs g (.inr (.inr (.inr (.inr e)))), fun cs hb => ?_⟩
      obtain ⟨ps, hp, _⟩ := h.wts
      exact hp.ne_ hb (by decide) e
    · subst e; exact ⟨h.bd, not_u8 h.st (by decide)⟩
  exact ⟨hok, hc, h.ops, hst, h.kept.keepF k hF (fun e => by rcases e with e | e; exact p8 e; exact p1 e.symm), ⟨h.inu.1, own_keep h.inu.2 k (fun g e => (by have : q.gi = g := (by simpa [Value.ownBlock] using e); subst this; intro e9; rcases e9 with e9 | e9; exact p9 e9; exact p2 e9.symm))⟩, hW, h.op.keep k (fun e => by rcases e with e | e; exact p10 e; exact p3 e.symm), h.bd, h.bo⟩
set_option maxRecDepth 100000 in
set_option maxHeartbeats 20000000 in
theorem rpush_any (h : RDiskAt w base q A c ck ci D) (hs : base ≤ w.heap.size) (k : Nat) (B : Option Addr) (d : Nat) (b : List UInt8) (hb : b.length = 128) (hr : RB w B 128 b) (hoff : D.off = false) (hk : k < D.many) (hf : fullB D (k : Int) = false) (hw : D.waits.length < 1000000) :
    Calls Tryz.prog 191 #[.pointer (some ⟨q.d, 0, none⟩), .int .i64 (k : Nat), .slice B 128 d] w fun e w' => e = .returned (.int .i64 (if D.cut = 0 then 50 else 0)) ∧ RNext w base q A ck ci (goesV (putD D k b) 2) w' := by
  obtain ⟨c0, c1, c2, c3, c4, c5, c6⟩ := h.cells
  have c5' := c5
  have hl8 := h.st.lt
  rw [hoff] at c5
  have hm := h.ok.many1
  have hI := fun n => ris_any (h.drewN n) k hk
  have hU := fun n => rused_any (h.drewN n)
  have hus := h.cons.used
  have HF := Lib.hid hf
  have HH := Lib.hid h
  have HR := Lib.hid hr
  have HB := Lib.hid hb
  have HO := Lib.hid hoff
  unfold fullB at hf
  rw [Int.toNat_natCast] at hf
  clear h hr hb hoff c5'
  go_enter Tryz.func191, Tryz.ntmps191
  go_upto_region 5 with fail
  go_cut [34] (fun v wx => v = .bool false ∧ ∃ nq, wx = w.drewN nq)
  case first =>
    obtain ⟨mg, hmg⟩ : ∃ mg, D.might.getD k false = mg := ⟨_, rfl⟩
    rw [hmg] at hf hI
    clear hmg
    cases mg with
    | true =>
      clear hf hus hU
      go_quiet ((first
        | (go_at_call 224; exact Calls.quiet_of_same ((hI _).mono fun e w' ⟨h1, h2⟩ => ⟨h1, h2.symm⟩))))
      go_wp2_with fail
      go_meet
      exact ⟨rfl, _, rfl⟩
    | false =>
      have hge : decide (D.room ≤ ((trues D.might : Nat) : Int)) = false := by
        rw [decide_eq_false_iff_not]
        simp only [Bool.not_false, Bool.true_and, beq_eq_false_iff_ne] at hf
        omega
      clear hf hus
      generalize ((trues D.might : Nat) : Int) = tr at *
      go_quiet ((first
        | (go_at_call 224; exact Calls.quiet_of_same ((hI _).mono fun e w' ⟨h1, h2⟩ => ⟨h1, h2.symm⟩))
        | (go_at_call 225; exact Calls.quiet_of_same ((hU _).mono fun e w' ⟨h1, h2⟩ => ⟨h1, h2.symm⟩))))
      go_wp2_with fail
      go_meet
      exact ⟨rfl, _, rfl⟩
  case rest =>
    obtain ⟨rfl, nq, rfl⟩ := hcut
    have b1 : Below w.heap.size w (w.drewN nq) := below_drewN (Below.refl _ _) nq
    have h1 := HH.out.below b1
    have hr1 := HR.out.below b1 (Nat.le_refl _)
    have sz1 : (w.drewN nq).heap.size = w.heap.size := rfl
    have B1 := Lib.hid b1
    have SZ1 := Lib.hid sz1
    rw [← sz1] at hs
    clear hI hU hus hf c0 c1 c2 c3 c4 c5 c6 hl8 sz1 b1
    generalize w.drewN nq = w1 at *
    obtain ⟨c0, c1, c2, c3, c4, c5, c6⟩ := h1.cells
    rw [HO.out] at c5
    have hl8 := h1.st.lt
    have f2 := h1.st.frozen 2
    have HH1 := Lib.hid h1
    have hst1 := h1.st
    obtain ⟨ps, hps, hpx⟩ := h1.wts
    have hAd := h1.apart.2.2.2.2.2.2.1
    have HPX := Lib.hid hpx
    have hrb := hr1.rd
    clear h1 hr1 hpx
    go_wp2_with fail
    go_region_law (first
      | (refine step_app rfl rfl elemB bv_one (s := .tmp 41) (N := 128) (L := b) rfl (Ow.new _ _ #[] [] rfl (by decide)) rfl (k := b) (hrb.below (b := w1.heap.size) (by (repeat' (first | (with_reducible exact Below.refl _ _) | (with_reducible assumption) | (with_reducible refine Below.drew ?_) | (with_reducible refine below_drewN ?_ _) | (with_reducible refine Below.alloc ?_ ?_ _) | (with_reducible refine Below.setCell ?_ ?_ _) | omega | (simp; done) | (simp; omega)))) (Nat.le_refl _)) (by omega) (by simp) (by unfold maxLen; omega) (by omega) (by simp; done) ?_; intro A5 c5' w5 hown5 hg5 hat5 hb5; have b5 : Below w1.heap.size w1 w5 := ((Below.drew (Below.refl w1.heap.size w1)).alloc (Nat.le_refl _) _).trans hb5; have s5 := b5.size; have y5 : w5.cell? ⟨q.d, 2, none⟩ = some (.slice A D.waits.length c) := (hst1.below b5 hl8).cell 2; have l5 : q.d < w5.heap.size := (by omega))
      | (refine step_appS rfl rfl elemRP encP_one (s := .tmp 39) (N := D.waits.length + 1) (L := ps ++ [(k, ⟨A5, 128, c5'⟩)]) rfl (hps.below (b := w1.heap.size) (b5.alloc s5 _) (Nat.le_refl _)) rfl (k := [(k, ⟨A5, 128, c5'⟩)]) (RdS.of_cells (g := w5.heap.size) (cs := #[.int .i64 (k : Nat), .slice A5 128 c5']) (t := 169) (heap_top _ _ (by simp)) rfl rfl) rfl rfl (by unfold maxLen; omega) (by omega) (by simp; omega) ?_; intro A7 c7 w7 hown7 hg7 hat7 hb7; have x7 := Blk.grown (hst1.below (b5.alloc s5 (.cells #[.int .i64 (k : Nat), .slice A5 128 c5'] 169)) hl8) hg7 hAd; have f7 := x7.frozen 2; have y7 : w7.cell? ⟨q.d, 2, none⟩ = some (.slice A D.waits.length c) := x7.cell 2; have l7 := x7.lt)
      | fail "no arm")
    all_goals
      have hW6 := b5.alloc s5 (.cells #[.int .i64 (k : Nat), .slice A5 128 c5'] 169)
      have h6 := HH1.out.below hW6
      have kA : Keep (fun g => A.map (·.block) = some g ∨ g = q.d) (w5.alloc (.cells #[.int .i64 (k : Nat), .slice A5 128 c5'] 169)) (w7.setCell ⟨q.d, 2, none⟩ (.slice A7 (D.waits.length + 1) c7)) := (Keep.of_grown hg7 (fun g e => .inl e)).set_ _ (.inr rfl)
      have hst8 : Blk (w7.setCell ⟨q.d, 2, none⟩ (.slice A7 (D.waits.length + 1) c7)) q.d 119 (rdC q D.many ck ci A7 (D.waits ++ [(k, b)]).length c7 D.room D.cut D.off) := by
        rw [List.length_append, List.length_singleton]
        exact x7.set_ 2 _
      have hF : ∀ g, (A.map (·.block) = some g ∨ g = q.d) → base ≤ g ∧ ∀ cs, ¬ Blk (w5.alloc (.cells #[.int .i64 (k : Nat), .slice A5 128 c5'] 169)) g 5 cs := fun g e => by
        rcases e with e | e
        · refine ⟨h6.bs g (.inr (.inr (.inr (.inr e)))), fun cs hb => ?_⟩
          obtain ⟨ps', hp', _⟩ := h6.wts
          exact hp'.ne_ hb (by decide) e
        · subst e; exact ⟨h6.bd, not_u8 h6.st (by decide)⟩
      have hW8 : WaitAt (w7.setCell ⟨q.d, 2, none⟩ (.slice A7 (D.waits.length + 1) c7)) base A7 c7 (D.waits ++ [(k, b)]) := by
        refine ⟨ps ++ [(k, ⟨A5, 128, c5'⟩)], ?_, fun j x hx => ?_⟩
        · rw [List.length_append, List.length_singleton]
          exact OwS.setFar hown7 x7 (by decide) 2 _
        · have hpl : ps.length = D.waits.length := hps.1
          rcases Nat.lt_or_ge j ps.length with q1 | q1
          · rw [List.getElem?_append_left q1] at hx
            obtain ⟨L, e1, e2, e3⟩ := HPX.out j x hx
            exact ⟨L, by rw [List.getElem?_append_left (by omega)]; exact e1, e2, (e3.below hW6).keepF kA hF⟩
          · have hj : j = ps.length := by
              have := (List.getElem?_eq_some_iff.1 hx).1
              rw [List.length_append, List.length_singleton] at this
              omega
            subst hj
            rw [List.getElem?_append_right (Nat.le_refl _), Nat.sub_self] at hx
            simp only [List.getElem?_cons_zero, Option.some.injEq] at hx
            subst hx
            refine ⟨b, by rw [hpl, List.getElem?_append_right (Nat.le_refl _), Nat.sub_self]; rfl, ⟨rfl, hown5.cap⟩, ?_⟩
            exact ((BytesAt.of_ob (base := base) (h := ⟨A5, 128, c5'⟩) hown5).below ((Below.refl _ _).alloc (Nat.le_refl _) _)).keepF kA hF
      have h8 : RDiskAt (w7.setCell ⟨q.d, 2, none⟩ (.slice A7 (D.waits.length + 1) c7)) base q A7 c7 ck ci (putD D k b) := h6.turnWaits kA hst8 hW8 (putD_ok HH1.out.ok (by omega) (by omega) HB.out hw) (HH1.out.cons.put HH1.out.ok (by omega) (by omega) b HF.out)
      have hC := rgoes_any h8 HO.out 1 (.inl rfl)
      have kW : Keep (fun g => rfoot q A g) w (w7.setCell ⟨q.d, 2, none⟩ (.slice A7 (D.waits.length + 1) c7)) := ((Keep.of_below (F := fun g => rfoot q A g) B1.out).trans (Keep.of_below (F := fun _ => False) hW6) (fun g _ e => e.elim)).trans kA (fun g _ e => by rcases e with e | e; exact .inr (.inr (.inr (.inr e))); exact .inl e)
      have KW := Lib.hid kW
      rw [show ((1 : Int) + 1) = 2 from rfl, show (putD D k b).cut = D.cut from rfl] at hC
      clear hW6 h6 kA hst8 hF hW8 h8 kW x7 f7 y7 l7 hown7 hg7 hat7 hb7 hown5 hg5 hat5 hb5 b5 y5 hrb hst1 hps
      by_cases hc0 : D.cut = 0
      · have hcB : (D.cut == 0) = true := by rw [hc0]; rfl
        rw [hcB] at hC
        have HC0 := Lib.hid hc0
        clear hc0 hcB
        go_wp2_with (first
          | (go_at_call 118; (with_reducible refine (hC).mono ?_); rintro e w9 ⟨rfl, h9, k9⟩)
          | fail "no arm")
        go_ret
        exact ⟨rfl, A7, c7, h9, KW.out.trans k9 (fun g _ e => by rcases e with e | e; exact .inl e; exact .inr (.inr (.inr (.inl e))))⟩
      · have hcB : (D.cut == 0) = false := by rw [beq_eq_false_iff_ne]; exact hc0
        rw [hcB] at hC
        have HC0 := Lib.hid hc0
        clear hc0 hcB
        go_wp2_with (first
          | (go_at_call 118; (with_reducible refine (hC).mono ?_); rintro e w9 ⟨rfl, h9, k9⟩)
          | fail "no arm")
        go_ret
        exact ⟨rfl, A7, c7, h9, KW.out.trans k9 (fun g _ e => by rcases e with e | e; exact .inl e; exact .inr (.inr (.inr (.inl e))))⟩
theorem rwrite_any (h : RDiskAt w base q A c ck ci D) (hs : base ≤ w.heap.size) (n : Int) (B : Option Addr) (d : Nat) (b : List UInt8) (hb : b.length = 128) (hr : RB w B 128 b) (hw : D.waits.length < 1000000) :
    Calls Tryz.prog 191 #[.pointer (some ⟨q.d, 0, none⟩), .int .i64 n, .slice B 128 d] w fun e w' => e = .returned (.int .i64 (writeV D n b).2) ∧ RNext w base q A ck ci (writeV D n b).1 w' := by
  unfold writeV
  by_cases hn : mayV D n = 0
  · rw [if_neg (by omega)]
    obtain ⟨ho, h0, h1⟩ := mayV_zero hn
    obtain ⟨k, rfl⟩ : ∃ k : Nat, n = (k : Int) := ⟨n.toNat, by omega⟩
    cases hf : fullB D (k : Int) with
    | true =>
      rw [if_pos rfl]
      exact (rwrite_full h k B 128 d ho (by omega) hf).mono fun e w' ⟨h1, h2⟩ => ⟨h1, RNext.same h h2⟩
    | false =>
      rw [if_neg (by simp)]
      exact rpush_any h hs k B d b hb hr ho (by omega) hf hw
  · rw [if_pos hn]
    exact (rwrite_no h n B 128 d hn).mono fun e w' ⟨h1, h2⟩ => ⟨h1, RNext.same h (h2 ▸ Below.refl _ _)⟩
end
end Go.Proofs.YtalmdccgpigppaaGreat
namespace Go.Proofs.YtalmdccgpigppaaGreat
open Go.RowKit
set_option linter.unusedVariables false
set_option linter.unusedSimpArgs false
section
variable {F : Nat → Prop} {w w' : World} {base : Nat} {q : RDiskP} {A : Option Addr} {c ck ci : Nat} {D : DiskV}
/-- A sector's row turned. -/
theorem KeptAt.set_ {gk many n : Nat} {kept L : List UInt8} (h : KeptAt w base gk many ck kept) (hk : kept.length = many * 128) (hn : n < many) {x : SlV} (hx : Whole x) (hb : BytesAt w base x L) (hL : L.length = 128) : KeptAt (w.setCell ⟨gk, n, none⟩ (slV x)) base gk many ck (splice kept (n * 128) L) := by
  obtain ⟨hs, ho, hc⟩ := h
  have hF : ∀ g, g = gk → base ≤ g ∧ ∀ cs, ¬ Blk w g 5 cs := fun g e => by
    subst e
    obtain ⟨cs, hb⟩ := ho.blk (g := g) rfl
    exact ⟨(ho.lt g rfl).1, not_u8 hb (by decide)⟩
  have k : Keep (fun g => g = gk) w (w.setCell ⟨gk, n, none⟩ (slV x)) := Keep.one (grown_setCell _)
  refine ⟨hs.set n x, ho.set n x _ rfl, fun j y hy => ?_⟩
  have hjl : j < many := by
    have := (List.getElem?_eq_some_iff.1 hy).1
    rw [List.length_set, ho.1] at this
    exact this
  rw [secOf_splice hk hL hn hjl]
  rw [List.getElem?_set] at hy
  split at hy
  · rename_i e
    subst e
    rw [if_pos (by rw [ho.1]; exact hn)] at hy
    injection hy with hy
    subst hy
    rw [if_pos rfl]
    exact ⟨hx, hb.keepF k hF⟩
  · rename_i e
    rw [if_neg (fun e' => e e'.symm)]
    exact ⟨(hc j y hy).1, (hc j y hy).2.keepF k hF⟩
theorem WaitAt.nil (w : World) (base : Nat) : WaitAt w base none 0 [] := ⟨[], ⟨rfl, World.ownsRow_nil w base _ 2⟩, fun k x h => by simp at h⟩
set_option maxRecDepth 100000 in
set_option maxHeartbeats 8000000 in
theorem rflush_any (h : RDiskAt w base q A c ck ci D) : Calls Tryz.prog 58 #[.pointer (some ⟨q.d, 0, none⟩)] w fun e w' => e = .returned (.int .i64 (flushV D).2) ∧ RNext w base q A ck ci (flushV D).1 w' := by
  obtain ⟨c0, c1, c2, c3, c4, c5, c6⟩ := h.cells
  have hm0 := h.ok.many0
  unfold flushV
  cases ho : D.off with
  | true =>
    have hm : mayV D 0 = 50 := by unfold mayV; rw [ho]; rfl
    rw [hm, if_pos (by omega)]
    rw [ho] at c5
    have HH := Lib.hid h
    clear ho hm h
    go_enter Tryz.func58, Tryz.ntmps58
    go_wp2
    go_ret
    exact ⟨rfl, RNext.same HH.out (Below.refl _ _)⟩
  | false =>
    have hm : mayV D 0 = 0 := by unfold mayV; rw [ho]; simp; omega
    rw [hm, if_neg (by omega)]
    rw [ho] at c5
    have hC := rgoes_any h ho 2 (.inr rfl)
    rw [show ((2 : Int) + 1) = 3 from rfl] at hC
    have HH := Lib.hid h
    have HO := Lib.hid ho
    by_cases hc0 : D.cut = 0
    · rw [if_pos hc0]
      have hcB : (D.cut == 0) = true := by rw [hc0]; rfl
      rw [hcB] at hC
      clear ho hm h hc0 hcB
      go_enter Tryz.func58, Tryz.ntmps58
      go_wp2_with (first
        | (go_at_call 118; (with_reducible refine (hC).mono ?_); rintro e w2 ⟨rfl, h2, k2⟩)
        | fail "no arm")
      go_ret
      exact ⟨rfl, RNext.head h2 k2⟩
    · rw [if_neg hc0]
      have hcB : (D.cut == 0) = false := by rw [beq_eq_false_iff_ne]; exact hc0
      rw [hcB] at hC
      have hcons := h.cons.flush
      have hok := flushV_ok h.ok
      have hfl : flushV D = (flushD (goesV D 3), 0) := by unfold flushV; rw [hm, if_neg (by omega), if_neg hc0]
      rw [hfl] at hcons hok
      have HCO := Lib.hid hcons
      have HOK := Lib.hid hok
      clear ho hm h hc0 hcB hfl hcons hok c0 c1 c2 c3 c4 c6
      generalize goesV D 3 = E at *
      go_enter Tryz.func58, Tryz.ntmps58
      go_wp2_with (first
        | ((go_at_call 118; (with_reducible refine (hC).mono ?_); rintro e wg ⟨rfl, hg, kg⟩); have HG := Lib.hid hg; have KG := Lib.hid kg; clear hg kg)
        | fail "no arm")
      clear c5
      obtain ⟨p1, p2, p3, p4, p5, p6, p7, p8, p9, p10⟩ := HG.out.apart
      have hfew := HG.out.ok.few
      have hm1 := HG.out.ok.many1
      go_loopw [3] (fun i wr => ∃ k : Nat, k ≤ E.waits.length ∧ i = .int .i64 (k : Nat) ∧ Keep (fun g => g = q.gk ∨ g = q.gi) wg wr ∧ KeptAt wr base q.gk E.many ck (keepK E.waits (E.kept, E.inuse) k).1 ∧ Ow boolV wr base 4 (some ⟨q.gi, 0, none⟩) E.many ci (keepK E.waits (E.kept, E.inuse) k).2) (fun i _ => E.waits.length - (intOf i).toNat)
      case atStart => exact ⟨0, by omega, rfl, Keep.refl _ _, HG.out.kept, HG.out.inu⟩
      case round =>
        obtain ⟨k, hk, rfl, hkp, hke, hin⟩ := hrel
        have hF : ∀ g, (g = q.gk ∨ g = q.gi) → base ≤ g ∧ ∀ cs, ¬ Blk wg g 5 cs := fun g e => by
          rcases e with e | e
          · subst e
            obtain ⟨hs, ho, _⟩ := HG.out.kept
            obtain ⟨cs, hb⟩ := ho.blk (g := q.gk) rfl
            exact ⟨(ho.lt _ rfl).1, not_u8 hb (by decide)⟩
          · subst e
            obtain ⟨cs, hb⟩ := HG.out.inu.blk (g := q.gi) rfl
            exact ⟨(HG.out.inu.lt _ rfl).1, not_u8 hb (by decide)⟩
        have hst := HG.out.st.keep hkp (fun e => by rcases e with e | e; exact p1 e; exact p2 e)
        have hwt := HG.out.wts.keepF hkp hF (fun g hg e => by rcases e with e | e; exact p8 (e ▸ hg); exact p9 (e ▸ hg))
        have d0 : wr.cell? ⟨q.d, 0, none⟩ = some (.slice (some ⟨q.gk, 0, none⟩) E.many ck) := hst.cell 0
        have d1 : wr.cell? ⟨q.d, 1, none⟩ = some (.slice (some ⟨q.gi, 0, none⟩) E.many ci) := hst.cell 1
        have d2 : wr.cell? ⟨q.d, 2, none⟩ = some (.slice A E.waits.length c) := hst.cell 2
        have KP := Lib.hid hkp
        have KE := Lib.hid hke
        have IN := Lib.hid hin
        have ST := Lib.hid hst
        have WT := Lib.hid hwt
        by_cases hlt : k < E.waits.length
        · obtain ⟨g, x, hA, hg, e0, e1, hxw, hxb⟩ := hwt.piece hlt
          obtain ⟨pl1, pl2⟩ := pieceAt_ok HG.out.ok hlt
          have hnx : Hid (keepK E.waits (E.kept, E.inuse) (k + 1) = (splice (keepK E.waits (E.kept, E.inuse) k).1 ((pieceAt E.waits k).1 * 128) (pieceAt E.waits k).2, (keepK E.waits (E.kept, E.inuse) k).2.set (pieceAt E.waits k).1 true)) := rfl
          have hlen := keepK_len HG.out.ok k hk
          have PL2 := Lib.hid pl2
          generalize keepK E.waits (E.kept, E.inuse) k = S at *
          obtain ⟨S1, S2⟩ := S
          simp only at hlen hnx hke hin KE IN
          generalize (pieceAt E.waits k).1 = n at *
          generalize (pieceAt E.waits k).2 = L at *
          have hset := KE.out.set_ hlen.1 pl1 hxw hxb PL2.out
          have HSET := Lib.hid hset
          have XB := Lib.hid hxb
          have HA := Lib.hid hA
          have fK : wr.frozen? ⟨q.gk, n, none⟩ = false := by obtain ⟨hs, ho, _⟩ := KE.out; exact ho.free n
          have fI : wr.frozen? ⟨q.gi, n, none⟩ = false := IN.out.free n
          obtain ⟨v1, hv1⟩ : ∃ v, wr.cell? ⟨q.gk, n, none⟩ = some v := by
            obtain ⟨hs, ho, _⟩ := KE.out
            obtain ⟨b, o, e2, _, e3⟩ := ho.rd.2.at_ pl1
            injection e2 with e2
            injection e2 with e4 e5 _
            subst e4 e5
            rw [Nat.zero_add] at e3
            exact ⟨_, e3⟩
          obtain ⟨v2, hv2⟩ : ∃ v, wr.cell? ⟨q.gi, n, none⟩ = some v := by
            obtain ⟨b, o, e2, _, e3⟩ := IN.out.rd.2.at_ pl1
            injection e2 with e2
            injection e2 with e4 e5 _
            subst e4 e5
            rw [Nat.zero_add] at e3
            exact ⟨_, e3⟩
          have l1 : q.gk < wr.heap.size := by have := (HG.out.lt q.gk (.inr (.inl rfl))); have := KP.out.size; omega
          have l2 : q.gi < wr.heap.size := by have := (HG.out.lt q.gi (.inr (.inr (.inl rfl)))); have := KP.out.size; omega
          have hgA : g ≠ q.gk ∧ g ≠ q.gi := by
            rw [hA] at p8 p9
            exact ⟨fun e => p8 (by rw [e]; rfl), fun e => p9 (by rw [e]; rfl)⟩
          obtain ⟨ga1, ga2⟩ := hgA
          clear hke hin hst hwt hxb hset hkp p7 p8 p9 p10
          subst hA
          obtain ⟨xa, xn, xc⟩ := x
          simp only [slV] at e1 HSET
          have gkn : q.gk ≠ q.gi := p4
          go_wp2_with fail
          refine wp_region_quiet_tail 21 (by kernel_rfl) (by kernel_rfl) ?_
          simp only [List.take_succ_cons, List.take_zero, List.drop_succ_cons, List.drop_zero]
          repeat (go_big_quiet_step (fail))
          refine wpQuiet_nil ?_
          go_wp2_with fail
          refine wp_region_quiet_tail 13 (by kernel_rfl) (by kernel_rfl) ?_
          simp only [List.take_succ_cons, List.take_zero, List.drop_succ_cons, List.drop_zero]
          repeat (go_big_quiet_step (fail))
          refine wpQuiet_nil ?_
          go_wp2_with fail
          go_roundw
          case rel =>
            have in1 : Ow boolV (wr.setCell ⟨q.gk, n, none⟩ (.slice xa xn xc)) base 4 (some ⟨q.gi, 0, none⟩) E.many ci S2 := ⟨IN.out.1, own_keep (F := fun g => g = q.gk) IN.out.2 (Keep.one (grown_setCell _)) (fun g e e2 => gkn (by rw [← e2]; simpa [Value.ownBlock] using e.symm))⟩
            have ke2 := (HSET.out.keepF (F := fun g => g = q.gi) (w' := (wr.setCell ⟨q.gk, n, none⟩ (.slice xa xn xc)).setCell ⟨q.gi, n, none⟩ (.bool true)) (Keep.one (grown_setCell _)) (fun g e => (by subst e; obtain ⟨cs, hb⟩ := in1.blk (g := q.gi) rfl; exact ⟨(in1.lt _ rfl).1, not_u8 hb (by decide)⟩)) gkn)
            have in2 := in1.set n true (.bool true) rfl
            have b2 : ∀ W : World, Below W.heap.size W W.drew.drew := fun W => Below.drew (Below.drew (Below.refl _ _))
            have f1 : KeptAt (((wr.setCell ⟨q.gk, n, none⟩ (.slice xa xn xc)).setCell ⟨q.gi, n, none⟩ (.bool true)).drew.drew) base q.gk E.many ck (keepK E.waits (E.kept, E.inuse) (k + 1)).1 := by rw [hnx.out]; exact ke2.below (b2 _)
            have f2 : Ow boolV (((wr.setCell ⟨q.gk, n, none⟩ (.slice xa xn xc)).setCell ⟨q.gi, n, none⟩ (.bool true)).drew.drew) base 4 (some ⟨q.gi, 0, none⟩) E.many ci (keepK E.waits (E.kept, E.inuse) (k + 1)).2 := by rw [hnx.out]; exact in2.below (b2 _) (Nat.le_refl _)
            have f3 := (((KP.out.set_ (i := n) (.slice xa xn xc) (.inl rfl)).set_ (i := n) (.bool true) (.inr rfl)).drewN 1).drewN 1
            first
              | exact ⟨k + 1, by omega, by go_num, f3, f1, f2⟩
              | ((repeat apply Exists.intro); exact ⟨⟨k + 1, by omega, by go_num, f3, f1, f2⟩, rfl⟩)
          case measure => simp [intOf]; omega
        · have hk9 : k = E.waits.length := by omega
          subst hk9
          have fd := hst.frozen 2
          have hd9 : q.d < wr.heap.size := hst.lt
          clear hke hin hst hwt hkp
          go_wp2
          go_ret
          refine ⟨rfl, none, 0, ⟨HOK.out, HCO.out, HG.out.ops, ST.out.set_ 2 _, ?_, ?_, WaitAt.nil _ _, ?_, HG.out.bd, HG.out.bo⟩, ?_⟩
          · exact KE.out.keepF (F := fun g => g = q.d) (Keep.one (grown_setCell _)) (fun g e => (by subst e; exact ⟨HG.out.bd, not_u8 ST.out (by decide)⟩)) (fun e => p1 e.symm)
          · exact ⟨IN.out.1, own_keep (F := fun g => g = q.d) IN.out.2 (Keep.one (grown_setCell _)) (fun g e e2 => p2 (by rw [← e2]; simpa [Value.ownBlock] using e.symm))⟩
          · exact (HG.out.op.keep KP.out (fun e => by rcases e with e | e; exact p5 e.symm; exact p6 e.symm)).far (p := ⟨q.d, 2, none⟩) p3.symm _
          · exact ((KG.out.mono (G := fun g => rfoot q A g) (fun g _ e => by rcases e with e | e; exact .inl e; exact .inr (.inr (.inr (.inl e))))).trans KP.out (fun g _ e => by rcases e with e | e; exact .inr (.inl e); exact .inr (.inr (.inl e)))).set_ _ (.inl rfl)
end
end Go.Proofs.YtalmdccgpigppaaGreat
