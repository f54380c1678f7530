/- Parts: RDiskD. -/
import Derived.Test.YtpmkpckldnnigaaGreatPr02
import Derived.Test.YtpmkpckldnnigaaGreatPr27
import Derived.Test.YtpmkpckldnnigaaGreatPr14
import Derived.Deep.DeepCutAuto
set_option linter.unusedVariables false
set_option linter.unusedSimpArgs false
set_option maxRecDepth 100000
set_option maxHeartbeats 40000000
namespace Go.Proofs.YtpmkpckldnnigaaGreat
open Go.RowKit
def vb7 (w : World) (base : Nat) (q : qf0) (A : Option Addr) (ck ci : Nat) (D' : qa3) (w' : World) : Prop := ∃ A' c', qc0 w' base q A' c' ck ci D' ∧ Keep (fun g => vj6 q A g) w w'
section
variable {F : Nat → Prop} {w w' : World} {base : Nat} {q : qf0} {A : Option Addr} {c ck ci : Nat} {D : qa3}
theorem vb7.same (h : qc0 w base q A c ck ci D) (hb : Below w.heap.size w w') : vb7 w base q A ck ci D w' := ⟨A, c, h.below hb, Keep.of_below hb⟩
theorem vb7.head {D' : qa3} (h : qc0 w' base q A c ck ci D') (k : Keep (fun g => g = q.d ∨ g = q.go) w w') : vb7 w base q A ck ci D' w' := ⟨A, c, h, k.mono (fun g _ e => by rcases e with e | e; exact .inl e; exact .inr (.inr (.inr (.inl e))))⟩
theorem rwrite_no (h : qc0 w base q A c ck ci D) (n : Int) (B : Option Addr) (m d : Nat) (hn : mayV D n ≠ 0) : Calls Tryz.prog 215 #[.pointer (some ⟨q.d, 0, none⟩), .int .i64 n, .slice B m d] w fun e w' => e = .returned (.int .i64 (mayV D n)) ∧ w = w' := by
  obtain ⟨c0, c1, c2, c3, c4, c5, c6⟩ := h.cells; unfold mayV at hn ⊢; clear h
  cases ho : D.off with
  | true =>
    rw [ho] at c5; simp only [if_true]; clear hn ho; go_enter Tryz.func215, Tryz.ntmps215; go_wp2; go_ret; exact ⟨rfl, rfl⟩
  | false =>
    rw [ho] at c5 hn; simp only [Bool.false_eq_true, if_false] at hn ⊢
    by_cases hr : n < 0 ∨ (D.many : Int) ≤ n
    · rw [if_pos hr]; have hc : n < 0 ∨ (0 ≤ n ∧ (D.many : Int) ≤ n) := omg; clear hn ho hr; rcases hc with h1 | ⟨h1, h2⟩
      all_goals
        go_enter Tryz.func215, Tryz.ntmps215; go_wp2; go_ret; exact ⟨rfl, rfl⟩
    · rw [if_neg hr] at hn; exact absurd rfl hn
theorem rwrite_full (h : qc0 w base q A c ck ci D) (k : Nat) (B : Option Addr) (m d : Nat) (hoff : D.off = false) (hk : k < D.many) (hf : qz9 D (k : Int) = true) : Calls Tryz.prog 215 #[.pointer (some ⟨q.d, 0, none⟩), .int .i64 (k : Nat), .slice B m d] w fun e w' => e = .returned (.int .i64 52) ∧ Below w.heap.size w w' := by
  obtain ⟨c0, c1, c2, c3, c4, c5, c6⟩ := h.cells; rw [hoff] at c5; have hm := h.ok.many1; have hI := fun n => ris_any (h.drewN n) k hk
  have hU := fun n => rused_any (h.drewN n)
  have hus := h.cons.used; unfold qz9 at hf; rw [Int.toNat_natCast] at hf
  cases hb : D.might.getD k false with
  | true => rw [hb] at hf; cases hf
  | false =>
    rw [hb] at hf hI; have hge : decide (D.room ≤ ((qh2 D.might : Nat) : Int)) = true := by
      rw [decide_eq_true_iff]; simp only [Bool.not_false, Bool.true_and, beq_iff_eq] at hf; omega
    clear h hf hb hoff hus; generalize ((qh2 D.might : Nat) : Int) = tr at *; go_enter Tryz.func215, Tryz.ntmps215; go_wp2_with fail; go_quiet ((first | (go_at_call 256; exact Calls.quiet_of_same ((hI _).mono fun e w' ⟨h1, h2⟩ => ⟨h1, h2.symm⟩)) | (go_at_call 257; exact Calls.quiet_of_same ((hU _).mono fun e w' ⟨h1, h2⟩ => ⟨h1, h2.symm⟩)))); go_wp2; go_ret; exact ⟨rfl, gwn⟩
theorem elemRP : qg4 Tryz.prog 122 156 (.agg #[.int .i64 0, .slice none 0 0]) 2 32 := qg4.mk' Tryz.underlying122 (by kernel_rfl) rfl dcd
theorem encP_one (x : Nat × SlV) : ∀ u ∈ encP x, u.oneCell' = true := by
  intro u hu; simp only [encP, List.mem_cons, List.not_mem_nil, or_false] at hu; rcases hu with rfl | rfl <;> rfl
theorem vg0 : qg4 Tryz.prog 22 5 (.int .u8 0) 1 1 := qg4.mk' Tryz.underlying22 (by kernel_rfl) rfl dcd
theorem qc0.turnWaits {A' : Option Addr} {c' : Nat} {W' : List (Nat × List UInt8)} {now' : List UInt8} {might' : List Bool} (h : qc0 w base q A c ck ci D) (k : Keep (fun g => A.map (·.block) = some g ∨ g = q.d) w w') (hst : Blk w' q.d 124 (rdC q D.many ck ci A' W'.length c' D.room D.cut D.off)) (hW : qq2 w' base A' c' W')
    (hok : ({ D with waits := W', now := now', might := might' } : qa3).Ok) (hc : Cons { D with waits := W', now := now', might := might' }) : qc0 w' base q A' c' ck ci { D with waits := W', now := now', might := might' } := by
  obtain ⟨p1, p2, p3, p4, p5, p6, p7, p8, p9, p10⟩ := h.apart; have hF : ∀ g, (A.map (·.block) = some g ∨ g = q.d) → base ≤ g ∧ ∀ cs, ¬ Blk w g 5 cs := fun g e => by
    rcases e with e | e
    · refine ⟨h.bs g (.inr (.inr (.inr (.inr e)))), fun cs hb => ?_⟩; obtain ⟨ps, hp, _⟩ := h.wts; exact hp.ne_ hb dcd e
    · subst e; exact ⟨h.bd, ql2 h.st dcd⟩
  exact ⟨hok, hc, h.ops, hst, h.kept.keepF k hF (fun e => by rcases e with e | e; exact p8 e; exact p1 e.symm), ⟨h.inu.1, qe7 h.inu.2 k (fun g e => (by have : q.gi = g := (by simpa [Value.ownBlock] using e); subst this; intro e9; rcases e9 with e9 | e9; exact p9 e9; exact p2 e9.symm))⟩, hW, h.op.keep k (fun e => by rcases e with e | e; exact p10 e; exact p3 e.symm), h.bd, h.bo⟩
theorem rpush_any (h : qc0 w base q A c ck ci D) (hs : base ≤ w.heap.size) (k : Nat) (B : Option Addr) (d : Nat) (b : List UInt8) (hb : b.length = 128) (hr : RB w B 128 b) (hoff : D.off = false) (hk : k < D.many) (hf : qz9 D (k : Int) = false) (hw : D.waits.length < 1000000) :
    Calls Tryz.prog 215 #[.pointer (some ⟨q.d, 0, none⟩), .int .i64 (k : Nat), .slice B 128 d] w fun e w' => e = .returned (.int .i64 (if D.cut = 0 then 50 else 0)) ∧ vb7 w base q A ck ci (qp5 (putD D k b) 2) w' := by
  obtain ⟨c0, c1, c2, c3, c4, c5, c6⟩ := h.cells; have c5' := c5; have hl8 := h.st.lt; rw [hoff] at c5; have hm := h.ok.many1; have hI := fun n => ris_any (h.drewN n) k hk
  have hU := fun n => rused_any (h.drewN n)
  have hus := h.cons.used; have HF := hdd hf; have HH := hdd h; have HR := hdd hr; have HB := hdd hb; have HO := hdd hoff; unfold qz9 at hf; rw [Int.toNat_natCast] at hf; clear h hr hb hoff c5'; go_enter Tryz.func215, Tryz.ntmps215; go_upto_region 5 with fail; go_cut [34] (fun v wx => v = .bool false ∧ ∃ nq, wx = w.drewN nq)
  case first =>
    obtain ⟨mg, hmg⟩ : ∃ mg, D.might.getD k false = mg := ⟨_, rfl⟩; rw [hmg] at hf hI; clear hmg
    cases mg with
    | true =>
      clear hf hus hU; go_quiet ((first | (go_at_call 256; exact Calls.quiet_of_same ((hI _).mono fun e w' ⟨h1, h2⟩ => ⟨h1, h2.symm⟩)))); go_wp2_with fail; go_meet; exact ⟨rfl, _, rfl⟩
    | false =>
      have hge : decide (D.room ≤ ((qh2 D.might : Nat) : Int)) = false := by
        rw [decide_eq_false_iff_not]; simp only [Bool.not_false, Bool.true_and, beq_eq_false_iff_ne] at hf; omega
      clear hf hus; generalize ((qh2 D.might : Nat) : Int) = tr at *; go_quiet ((first | (go_at_call 256; exact Calls.quiet_of_same ((hI _).mono fun e w' ⟨h1, h2⟩ => ⟨h1, h2.symm⟩)) | (go_at_call 257; exact Calls.quiet_of_same ((hU _).mono fun e w' ⟨h1, h2⟩ => ⟨h1, h2.symm⟩)))); go_wp2_with fail; go_meet; exact ⟨rfl, _, rfl⟩
  case rest =>
    obtain ⟨rfl, nq, rfl⟩ := hcut; have b1 : Below w.heap.size w (w.drewN nq) := below_drewN (Below.refl _ _) nq; have h1 := HH.out.below b1; have hr1 := HR.out.below b1 nlr; have sz1 : (w.drewN nq).heap.size = w.heap.size := rfl; have B1 := hdd b1; have SZ1 := hdd sz1; rw [← sz1] at hs; clear hI hU hus hf c0 c1 c2 c3 c4 c5 c6 hl8 sz1 b1; generalize w.drewN nq = w1 at *; obtain ⟨c0, c1, c2, c3, c4, c5, c6⟩ := h1.cells; rw [HO.out] at c5; have hl8 := h1.st.lt; have f2 := h1.st.frozen 2; have HH1 := hdd h1; have hst1 := h1.st; obtain ⟨ps, hps, hpx⟩ := h1.wts; have hAd := h1.apart.2.2.2.2.2.2.1; have HPX := hdd hpx; have hrb := hr1.rd; clear h1 hr1 hpx; go_wp2_with fail; go_region_law (first | (refine qd6 rfl rfl vg0 qc2 (s := .tmp 41) (N := 128) (L := b) rfl (Ow.new _ _ #[] [] rfl dcd) rfl (k := b) (hrb.below (b := w1.heap.size) gwn nlr) omg smp uml omg (by simp; done) ?_; intro A5 c5' w5 hown5 hg5 hat5 hb5; have b5 : Below w1.heap.size w1 w5 := ((Below.drew (Below.refl w1.heap.size w1)).alloc nlr _).trans hb5; have s5 := b5.size; have y5 : w5.cell? ⟨q.d, 2, none⟩ = some (.slice A D.waits.length c) := (hst1.below b5 hl8).cell 2; have l5 : q.d < w5.heap.size := omg) | (refine qt7 rfl rfl elemRP encP_one (s := .tmp 39) (N := D.waits.length + 1) (L := ps ++ [(k, ⟨A5, 128, c5'⟩)]) rfl (hps.below (b := w1.heap.size) (b5.alloc s5 _) nlr) rfl (k := [(k, ⟨A5, 128, c5'⟩)]) (RdS.of_cells (g := w5.heap.size) (cs := #[.int .i64 (k : Nat), .slice A5 128 c5']) (t := 156) (qb7 _ _ smp) rfl rfl) rfl rfl uml omg (by simp; omega) ?_; intro A7 c7 w7 hown7 hg7 hat7 hb7; have x7 := Blk.grown (hst1.below (b5.alloc s5 (.cells #[.int .i64 (k : Nat), .slice A5 128 c5'] 156)) hl8) hg7 hAd; have f7 := x7.frozen 2; have y7 : w7.cell? ⟨q.d, 2, none⟩ = some (.slice A D.waits.length c) := x7.cell 2; have l7 := x7.lt) | fail "no arm")
    all_goals
      have hW6 := b5.alloc s5 (.cells #[.int .i64 (k : Nat), .slice A5 128 c5'] 156); have h6 := HH1.out.below hW6; have kA : Keep (fun g => A.map (·.block) = some g ∨ g = q.d) (w5.alloc (.cells #[.int .i64 (k : Nat), .slice A5 128 c5'] 156)) (w7.setCell ⟨q.d, 2, none⟩ (.slice A7 (D.waits.length + 1) c7)) := (Keep.of_grown hg7 (fun g e => .inl e)).set_ _ (.inr rfl); have hst8 : Blk (w7.setCell ⟨q.d, 2, none⟩ (.slice A7 (D.waits.length + 1) c7)) q.d 124 (rdC q D.many ck ci A7 (D.waits ++ [(k, b)]).length c7 D.room D.cut D.off) := by
        rw [List.length_append, List.length_singleton]; exact x7.set_ 2 _
      have hF : ∀ g, (A.map (·.block) = some g ∨ g = q.d) → base ≤ g ∧ ∀ cs, ¬ Blk (w5.alloc (.cells #[.int .i64 (k : Nat), .slice A5 128 c5'] 156)) g 5 cs := fun g e => by
        rcases e with e | e
        · refine ⟨h6.bs g (.inr (.inr (.inr (.inr e)))), fun cs hb => ?_⟩; obtain ⟨ps', hp', _⟩ := h6.wts; exact hp'.ne_ hb dcd e
        · subst e; exact ⟨h6.bd, ql2 h6.st dcd⟩
      have hW8 : qq2 (w7.setCell ⟨q.d, 2, none⟩ (.slice A7 (D.waits.length + 1) c7)) base A7 c7 (D.waits ++ [(k, b)]) := by
        refine ⟨ps ++ [(k, ⟨A5, 128, c5'⟩)], ?_, fun j x hx => ?_⟩
        · rw [List.length_append, List.length_singleton]; exact OwS.setFar hown7 x7 dcd 2 _
        · have hpl : ps.length = D.waits.length := hps.1; rcases Nat.lt_or_ge j ps.length with q1 | q1
          · rw [List.getElem?_append_left q1] at hx; obtain ⟨L, e1, e2, e3⟩ := HPX.out j x hx; exact ⟨L, by rw [List.getElem?_append_left omg]; exact e1, e2, (e3.below hW6).keepF kA hF⟩
          · have hj : j = ps.length := by
              have := (List.getElem?_eq_some_iff.1 hx).1; rw [List.length_append, List.length_singleton] at this; omega
            subst hj; rw [List.getElem?_append_right nlr, Nat.sub_self] at hx; simp only [List.getElem?_cons_zero, Option.some.injEq] at hx; subst hx; refine ⟨b, by rw [hpl, List.getElem?_append_right nlr, Nat.sub_self]; rfl, ⟨rfl, hown5.cap⟩, ?_⟩; exact ((qb8.of_ob (base := base) (h := ⟨A5, 128, c5'⟩) hown5).below ((Below.refl _ _).alloc nlr _)).keepF kA hF
      have h8 : qc0 (w7.setCell ⟨q.d, 2, none⟩ (.slice A7 (D.waits.length + 1) c7)) base q A7 c7 ck ci (putD D k b) := h6.turnWaits kA hst8 hW8 (putD_ok HH1.out.ok omg omg HB.out hw) (HH1.out.cons.put HH1.out.ok omg omg b HF.out); have hC := rgoes_any h8 HO.out 1 (.inl rfl); have kW : Keep (fun g => vj6 q A g) w (w7.setCell ⟨q.d, 2, none⟩ (.slice A7 (D.waits.length + 1) c7)) := ((Keep.of_below (F := fun g => vj6 q A g) B1.out).trans (Keep.of_below (F := fun _ => False) hW6) (fun g _ e => e.elim)).trans kA (fun g _ e => by rcases e with e | e; exact .inr (.inr (.inr (.inr e))); exact .inl e); have KW := hdd kW; rw [show ((1 : Int) + 1) = 2 from rfl, show (putD D k b).cut = D.cut from rfl] at hC; clear hW6 h6 kA hst8 hF hW8 h8 kW x7 f7 y7 l7 hown7 hg7 hat7 hb7 hown5 hg5 hat5 hb5 b5 y5 hrb hst1 hps
      by_cases hc0 : D.cut = 0
      · have hcB : (D.cut == 0) = true := by rw [hc0]; rfl
        rw [hcB] at hC; have HC0 := hdd hc0; clear hc0 hcB; go_wp2_with (first | (go_at_call 216; (with_reducible refine (hC).mono ?_); rintro e w9 ⟨rfl, h9, k9⟩) | fail "no arm"); go_ret; exact ⟨rfl, A7, c7, h9, KW.out.trans k9 (fun g _ e => by rcases e with e | e; exact .inl e; exact .inr (.inr (.inr (.inl e))))⟩
      · have hcB : (D.cut == 0) = false := by rw [beq_eq_false_iff_ne]; exact hc0
        rw [hcB] at hC; have HC0 := hdd hc0; clear hc0 hcB; go_wp2_with (first | (go_at_call 216; (with_reducible refine (hC).mono ?_); rintro e w9 ⟨rfl, h9, k9⟩) | fail "no arm"); go_ret; exact ⟨rfl, A7, c7, h9, KW.out.trans k9 (fun g _ e => by rcases e with e | e; exact .inl e; exact .inr (.inr (.inr (.inl e))))⟩
theorem rwrite_any (h : qc0 w base q A c ck ci D) (hs : base ≤ w.heap.size) (n : Int) (B : Option Addr) (d : Nat) (b : List UInt8) (hb : b.length = 128) (hr : RB w B 128 b) (hw : D.waits.length < 1000000) :
    Calls Tryz.prog 215 #[.pointer (some ⟨q.d, 0, none⟩), .int .i64 n, .slice B 128 d] w fun e w' => e = .returned (.int .i64 (qm8 D n b).2) ∧ vb7 w base q A ck ci (qm8 D n b).1 w' := by
  unfold qm8
  by_cases hn : mayV D n = 0
  · rw [if_neg omg]; obtain ⟨ho, h0, h1⟩ := qp4 hn; obtain ⟨k, rfl⟩ : ∃ k : Nat, n = (k : Int) := ⟨n.toNat, omg⟩
    cases hf : qz9 D (k : Int) with
    | true =>
      rw [if_pos rfl]; exact (rwrite_full h k B 128 d ho omg hf).mono fun e w' ⟨h1, h2⟩ => ⟨h1, vb7.same h h2⟩
    | false =>
      rw [if_neg smp]; exact rpush_any h hs k B d b hb hr ho omg hf hw
  · rw [if_pos hn]; exact (rwrite_no h n B 128 d hn).mono fun e w' ⟨h1, h2⟩ => ⟨h1, vb7.same h (h2 ▸ Below.refl _ _)⟩
end
section
variable {F : Nat → Prop} {w w' : World} {base : Nat} {q : qf0} {A : Option Addr} {c ck ci : Nat} {D : qa3}
theorem qi8.set_ {gk many n : Nat} {kept L : List UInt8} (h : qi8 w base gk many ck kept) (hk : kept.length = many * 128) (hn : n < many) {x : SlV} (hx : vb6 x) (hb : qb8 w base x L) (hL : L.length = 128) : qi8 (w.setCell ⟨gk, n, none⟩ (slV x)) base gk many ck (splice kept (n * 128) L) := by
  obtain ⟨hs, ho, hc⟩ := h; have hF : ∀ g, g = gk → base ≤ g ∧ ∀ cs, ¬ Blk w g 5 cs := fun g e => by
    subst e; obtain ⟨cs, hb⟩ := ho.blk (g := g) rfl; exact ⟨(ho.lt g rfl).1, ql2 hb dcd⟩
  have k : Keep (fun g => g = gk) w (w.setCell ⟨gk, n, none⟩ (slV x)) := Keep.one (qb1 _); refine ⟨hs.set n x, ho.set n x _ rfl, fun j y hy => ?_⟩; have hjl : j < many := by
    have := (List.getElem?_eq_some_iff.1 hy).1; rw [List.length_set, ho.1] at this; exact this
  rw [qt8 hk hL hn hjl]; rw [List.getElem?_set] at hy
  split at hy
  · rename_i e; subst e; rw [if_pos (by rw [ho.1]; exact hn)] at hy; injection hy with hy; subst hy; rw [if_pos rfl]; exact ⟨hx, hb.keepF k hF⟩
  · rename_i e; rw [if_neg (fun e' => e e'.symm)]; exact ⟨(hc j y hy).1, (hc j y hy).2.keepF k hF⟩
theorem qq2.nil (w : World) (base : Nat) : qq2 w base none 0 [] := ⟨[], ⟨rfl, World.ownsRow_nil w base _ 2⟩, fun k x h => by simp at h⟩
theorem rflush_any (h : qc0 w base q A c ck ci D) : Calls Tryz.prog 155 #[.pointer (some ⟨q.d, 0, none⟩)] w fun e w' => e = .returned (.int .i64 (qc1 D).2) ∧ vb7 w base q A ck ci (qc1 D).1 w' := by
  obtain ⟨c0, c1, c2, c3, c4, c5, c6⟩ := h.cells; have hm0 := h.ok.many0; unfold qc1
  cases ho : D.off with
  | true =>
    have hm : mayV D 0 = 50 := by unfold mayV; rw [ho]; rfl
    rw [hm, if_pos omg]; rw [ho] at c5; have HH := hdd h; clear ho hm h; go_enter Tryz.func155, Tryz.ntmps155; go_wp2; go_ret; exact ⟨rfl, vb7.same HH.out (Below.refl _ _)⟩
  | false =>
    have hm : mayV D 0 = 0 := by unfold mayV; rw [ho]; simp; omega
    rw [hm, if_neg omg]; rw [ho] at c5; have hC := rgoes_any h ho 2 (.inr rfl); rw [show ((2 : Int) + 1) = 3 from rfl] at hC; have HH := hdd h; have HO := hdd ho
    by_cases hc0 : D.cut = 0
    · rw [if_pos hc0]; have hcB : (D.cut == 0) = true := by rw [hc0]; rfl
      rw [hcB] at hC; clear ho hm h hc0 hcB; go_enter Tryz.func155, Tryz.ntmps155; go_wp2_with (first | (go_at_call 216; (with_reducible refine (hC).mono ?_); rintro e w2 ⟨rfl, h2, k2⟩) | fail "no arm"); go_ret; exact ⟨rfl, vb7.head h2 k2⟩
    · rw [if_neg hc0]; have hcB : (D.cut == 0) = false := by rw [beq_eq_false_iff_ne]; exact hc0
      rw [hcB] at hC; have hcons := h.cons.flush; have hok := flushV_ok h.ok; have hfl : qc1 D = (flushD (qp5 D 3), 0) := by unfold qc1; rw [hm, if_neg omg, if_neg hc0]
      rw [hfl] at hcons hok; have HCO := hdd hcons; have HOK := hdd hok; clear ho hm h hc0 hcB hfl hcons hok c0 c1 c2 c3 c4 c6; generalize qp5 D 3 = E at *; go_enter Tryz.func155, Tryz.ntmps155; go_wp2_with (first | ((go_at_call 216; (with_reducible refine (hC).mono ?_); rintro e wg ⟨rfl, hg, kg⟩); have HG := hdd hg; have KG := hdd kg; clear hg kg) | fail "no arm"); clear c5; obtain ⟨p1, p2, p3, p4, p5, p6, p7, p8, p9, p10⟩ := HG.out.apart; have hfew := HG.out.ok.few; have hm1 := HG.out.ok.many1; go_loopw [3] (fun i wr => ∃ k : Nat, k ≤ E.waits.length ∧ i = .int .i64 (k : Nat) ∧ Keep (fun g => g = q.gk ∨ g = q.gi) wg wr ∧ qi8 wr base q.gk E.many ck (qg9 E.waits (E.kept, E.inuse) k).1 ∧ Ow qo1 wr base 4 (some ⟨q.gi, 0, none⟩) E.many ci (qg9 E.waits (E.kept, E.inuse) k).2) (fun i _ => E.waits.length - (intOf i).toNat)
      case atStart => exact ⟨0, omg, rfl, Keep.refl _ _, HG.out.kept, HG.out.inu⟩
      case round =>
        obtain ⟨k, hk, rfl, hkp, hke, hin⟩ := hrel; have hF : ∀ g, (g = q.gk ∨ g = q.gi) → base ≤ g ∧ ∀ cs, ¬ Blk wg g 5 cs := fun g e => by
          rcases e with e | e
          · subst e; obtain ⟨hs, ho, _⟩ := HG.out.kept; obtain ⟨cs, hb⟩ := ho.blk (g := q.gk) rfl; exact ⟨(ho.lt _ rfl).1, ql2 hb dcd⟩
          · subst e; obtain ⟨cs, hb⟩ := HG.out.inu.blk (g := q.gi) rfl; exact ⟨(HG.out.inu.lt _ rfl).1, ql2 hb dcd⟩
        have hst := HG.out.st.keep hkp (fun e => by rcases e with e | e; exact p1 e; exact p2 e); have hwt := HG.out.wts.keepF hkp hF (fun g hg e => by rcases e with e | e; exact p8 (e ▸ hg); exact p9 (e ▸ hg)); have d0 : wr.cell? ⟨q.d, 0, none⟩ = some (.slice (some ⟨q.gk, 0, none⟩) E.many ck) := hst.cell 0; have d1 : wr.cell? ⟨q.d, 1, none⟩ = some (.slice (some ⟨q.gi, 0, none⟩) E.many ci) := hst.cell 1; have d2 : wr.cell? ⟨q.d, 2, none⟩ = some (.slice A E.waits.length c) := hst.cell 2; have KP := hdd hkp; have KE := hdd hke; have IN := hdd hin; have ST := hdd hst; have WT := hdd hwt
        by_cases hlt : k < E.waits.length
        · obtain ⟨g, x, hA, hg, e0, e1, hxw, hxb⟩ := hwt.piece hlt; obtain ⟨pl1, pl2⟩ := qj4 HG.out.ok hlt; have hnx : Hid (qg9 E.waits (E.kept, E.inuse) (k + 1) = (splice (qg9 E.waits (E.kept, E.inuse) k).1 ((qa9 E.waits k).1 * 128) (qa9 E.waits k).2, (qg9 E.waits (E.kept, E.inuse) k).2.set (qa9 E.waits k).1 true)) := rfl; have hlen := qu6 HG.out.ok k hk; have PL2 := hdd pl2; generalize qg9 E.waits (E.kept, E.inuse) k = S at *; obtain ⟨S1, S2⟩ := S; simp only at hlen hnx hke hin KE IN; generalize (qa9 E.waits k).1 = n at *; generalize (qa9 E.waits k).2 = L at *; have hset := KE.out.set_ hlen.1 pl1 hxw hxb PL2.out; have HSET := hdd hset; have XB := hdd hxb; have HA := hdd hA; have fK : wr.frozen? ⟨q.gk, n, none⟩ = false := by obtain ⟨hs, ho, _⟩ := KE.out; exact ho.free n
          have fI : wr.frozen? ⟨q.gi, n, none⟩ = false := IN.out.free n; obtain ⟨v1, hv1⟩ : ∃ v, wr.cell? ⟨q.gk, n, none⟩ = some v := by
            obtain ⟨hs, ho, _⟩ := KE.out; obtain ⟨b, o, e2, _, e3⟩ := ho.rd.2.at_ pl1; injection e2 with e2; injection e2 with e4 e5 _; subst e4 e5; rw [Nat.zero_add] at e3; exact ⟨_, e3⟩
          obtain ⟨v2, hv2⟩ : ∃ v, wr.cell? ⟨q.gi, n, none⟩ = some v := by
            obtain ⟨b, o, e2, _, e3⟩ := IN.out.rd.2.at_ pl1; injection e2 with e2; injection e2 with e4 e5 _; subst e4 e5; rw [Nat.zero_add] at e3; exact ⟨_, e3⟩
          have l1 : q.gk < wr.heap.size := by have := (HG.out.lt q.gk (.inr (.inl rfl))); have := KP.out.size; omega
          have l2 : q.gi < wr.heap.size := by have := (HG.out.lt q.gi (.inr (.inr (.inl rfl)))); have := KP.out.size; omega
          have hgA : g ≠ q.gk ∧ g ≠ q.gi := by
            rw [hA] at p8 p9; exact ⟨fun e => p8 (by rw [e]; rfl), fun e => p9 (by rw [e]; rfl)⟩
          obtain ⟨ga1, ga2⟩ := hgA; clear hke hin hst hwt hxb hset hkp p7 p8 p9 p10; subst hA; obtain ⟨xa, xn, xc⟩ := x; simp only [slV] at e1 HSET; have gkn : q.gk ≠ q.gi := p4; go_wp2_with fail; refine qb6 21 (by kernel_rfl) (by kernel_rfl) ?_; simp only [List.take_succ_cons, List.take_zero, List.drop_succ_cons, List.drop_zero]
          repeat (go_big_quiet_step (fail))
          refine wpQuiet_nil ?_; go_wp2_with fail; refine qb6 13 (by kernel_rfl) (by kernel_rfl) ?_; simp only [List.take_succ_cons, List.take_zero, List.drop_succ_cons, List.drop_zero]
          repeat (go_big_quiet_step (fail))
          refine wpQuiet_nil ?_; go_wp2_with fail; go_roundw
          case rel =>
            have in1 : Ow qo1 (wr.setCell ⟨q.gk, n, none⟩ (.slice xa xn xc)) base 4 (some ⟨q.gi, 0, none⟩) E.many ci S2 := ⟨IN.out.1, qe7 (F := fun g => g = q.gk) IN.out.2 (Keep.one (qb1 _)) (fun g e e2 => gkn (by rw [← e2]; simpa [Value.ownBlock] using e.symm))⟩; have ke2 := (HSET.out.keepF (F := fun g => g = q.gi) (w' := (wr.setCell ⟨q.gk, n, none⟩ (.slice xa xn xc)).setCell ⟨q.gi, n, none⟩ (.bool true)) (Keep.one (qb1 _)) (fun g e => (by subst e; obtain ⟨cs, hb⟩ := in1.blk (g := q.gi) rfl; exact ⟨(in1.lt _ rfl).1, ql2 hb dcd⟩)) gkn); have in2 := in1.set n true (.bool true) rfl; have b2 : ∀ W : World, Below W.heap.size W W.drew.drew := fun W => Below.drew (Below.drew (Below.refl _ _))
            have f1 : qi8 (((wr.setCell ⟨q.gk, n, none⟩ (.slice xa xn xc)).setCell ⟨q.gi, n, none⟩ (.bool true)).drew.drew) base q.gk E.many ck (qg9 E.waits (E.kept, E.inuse) (k + 1)).1 := by rw [hnx.out]; exact ke2.below (b2 _)
            have f2 : Ow qo1 (((wr.setCell ⟨q.gk, n, none⟩ (.slice xa xn xc)).setCell ⟨q.gi, n, none⟩ (.bool true)).drew.drew) base 4 (some ⟨q.gi, 0, none⟩) E.many ci (qg9 E.waits (E.kept, E.inuse) (k + 1)).2 := by rw [hnx.out]; exact in2.below (b2 _) nlr
            have f3 := (((KP.out.set_ (i := n) (.slice xa xn xc) (.inl rfl)).set_ (i := n) (.bool true) (.inr rfl)).drewN 1).drewN 1
            first
              | exact ⟨k + 1, omg, by go_num, f3, f1, f2⟩
              | ((repeat apply Exists.intro); exact ⟨⟨k + 1, omg, by go_num, f3, f1, f2⟩, rfl⟩)
          case measure => simp [intOf]; omega
        · have hk9 : k = E.waits.length := omg; subst hk9; have fd := hst.frozen 2; have hd9 : q.d < wr.heap.size := hst.lt; clear hke hin hst hwt hkp; go_wp2; go_ret; refine ⟨rfl, none, 0, ⟨HOK.out, HCO.out, HG.out.ops, ST.out.set_ 2 _, ?_, ?_, qq2.nil _ _, ?_, HG.out.bd, HG.out.bo⟩, ?_⟩
          · exact KE.out.keepF (F := fun g => g = q.d) (Keep.one (qb1 _)) (fun g e => (by subst e; exact ⟨HG.out.bd, ql2 ST.out dcd⟩)) (fun e => p1 e.symm)
          · exact ⟨IN.out.1, qe7 (F := fun g => g = q.d) IN.out.2 (Keep.one (qb1 _)) (fun g e e2 => p2 (by rw [← e2]; simpa [Value.ownBlock] using e.symm))⟩
          · exact (HG.out.op.keep KP.out (fun e => by rcases e with e | e; exact p5 e.symm; exact p6 e.symm)).far (p := ⟨q.d, 2, none⟩) p3.symm _
          · exact ((KG.out.mono (G := fun g => vj6 q A g) (fun g _ e => by rcases e with e | e; exact .inl e; exact .inr (.inr (.inr (.inl e))))).trans KP.out (fun g _ e => by rcases e with e | e; exact .inr (.inl e); exact .inr (.inr (.inl e)))).set_ _ (.inl rfl)
end
end Go.Proofs.YtpmkpckldnnigaaGreat
