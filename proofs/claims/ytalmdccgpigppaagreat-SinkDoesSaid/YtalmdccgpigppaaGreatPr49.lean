/- Parts: SinkQ, Ints. -/
import Derived.Test.YtalmdccgpigppaaGreatPr46
import Derived.Test.YtalmdccgpigppaaGreatPr47
import Derived.Test.YtalmdccgpigppaaGreatPr48
import Derived.Test.YtalmdccgpigppaaGreatPr01
import Derived.Test.YtalmdccgpigppaaGreatPr23
import Derived.Deep.QuietTactic
import Derived.BigQuiet
namespace Go.Proofs.YtalmdccgpigppaaGreat
open Go.RowKit
set_option linter.unusedVariables false
set_option linter.unusedSimpArgs false
/-- A journal of rows whose types do not lie in the document's counts. -/
def JRowsQ (t : TypeId) (q : RDiskP) (w : World) (base g ga : Nat) (kind : Int) (next : Nat) (ts : List Int) : Prop :=
  ∃ gj A n c, Blk w g t [.pointer (some ⟨gj, 0, none⟩), .slice A n c] ∧ base ≤ gj ∧ JrnAt w gj ga kind next ∧ IntsAt w base A n ts ∧ ∀ b, A.map (·.block) = some b → b ≠ q.go
section
variable {t : TypeId} {M : List TypeId} {w w' : World} {base g ga next nx' : Nat} {kind : Int} {ts : List Int} {p : DiskP} {q : RDiskP} {D E : DiskV}
theorem JRowsQ.at_ (H : JRowsQ t q w base g ga kind next ts) : JRowsAt t w base g ga kind next ts := by
  obtain ⟨gj, A, n, c, h1, h2, h3, h4, _⟩ := H
  exact ⟨gj, A, n, c, h1, h2, h3, h4⟩
/-- Behind a step of the program's, of which the journal is known. -/
theorem JRowsQ.after (H : JRowsQ t q w base g ga kind next ts) (hd : DiskS w base p D) (k : Step M base p w w') (h1 : t ∉ 4 :: M) (h : JRowsAt t w' base g ga kind nx' ts) : JRowsQ t q w' base g ga kind nx' ts := by
  obtain ⟨gj, A, n, c, a1, a2, a3, a4, a5⟩ := H
  obtain ⟨gj', A', n', c', b1, b2, b3, b4⟩ := h
  have e := (hd.blk a1 k.tch h1).inj b1
  injection e with e1 e
  injection e with e2 _
  injection e2 with e2 e3 e4
  subst e2 e3 e4
  exact ⟨gj', A, n, c, b1, b2, b3, b4, a5⟩
theorem JRowsQ.step (H : JRowsQ t q w base g ga kind next ts) (hd : DiskS w base p D) (k : Step M base p w w') (h1 : t ∉ 4 :: M) (h2 : 200 ∉ 4 :: M) (h3 : 3 ∉ 4 :: M) : JRowsQ t q w' base g ga kind next ts :=
  H.after hd k h1 (H.at_.step hd k h1 h2 h3)
theorem JRowsQ.below (H : JRowsQ t q w base g ga kind next ts) (hb : Below w.heap.size w w') : JRowsQ t q w' base g ga kind next ts := by
  obtain ⟨gj, A, n, c, h1, h2, h3, h4, h5⟩ := H
  exact ⟨gj, A, n, c, h1.below hb h1.lt, h2, Blk.below h3 hb (Blk.lt h3), h4.below hb, h5⟩
/-- What the document changes spares it. -/
theorem JRowsQ.far (H : JRowsQ t q w base g ga kind next ts) (ht : t ∉ [119, 169, 22, 4, 3, 53]) (hb : Below base w w')
    (ho : ∀ (g' : Nat) (t : TypeId) (cs : List Value), t ∉ [119, 169, 22, 4, 3, 53] → Blk w g' t cs → Blk w' g' t cs)
    (hi : ∀ (g' : Nat) (cs : List Value), g' ≠ q.go → Blk w g' 3 cs → Blk w' g' 3 cs) : JRowsQ t q w' base g ga kind next ts := by
  obtain ⟨gj, A, n, c, h1, h2, h3, h4, h5⟩ := H
  refine ⟨gj, A, n, c, ho _ _ _ ht h1, h2, ho _ _ _ (by decide) h3, ⟨⟨h4.1.1, fun h0 => (h4.1.2.sameB hb.size (fun b e _ => ?_)) h0⟩, h4.2.1, fun h0 b e => ?_⟩, h5⟩
  · rcases h4.2.2 (by assumption) b e with r | ⟨cs, r⟩
    · exact hb.block b r
    · exact Eq.trans (hi b cs (h5 b e) r) (Eq.symm r)
  · rcases h4.2.2 h0 b e with r | ⟨cs, r⟩
    · exact .inl r
    · exact .inr ⟨cs, hi b cs (h5 b e) r⟩
theorem JRowsQ.rstep (H : JRowsQ t q w base g ga kind next ts) (hd : RDiskS w base q D) (k : RStep base q w w') (ht : t ∉ [119, 169, 22, 4, 3, 53]) : JRowsQ t q w' base g ga kind next ts :=
  H.far ht k.bel (fun g' t cs h hb => hd.blk hb k (fun e => h (by simp only [List.mem_cons, List.not_mem_nil, or_false] at e ⊢; rcases e with e | e | e | e | e <;> simp [e]))) (fun g' cs hne hb => hd.ints hb k hne)
theorem JRowsNew.toQ (H : JRowsNew t w base next g ga kind nx' ts) (h : q.go < next) : JRowsQ t q w base g ga kind nx' ts := by
  obtain ⟨gj, A, n, c, h1, h2, h3, h4, h5⟩ := H
  exact ⟨gj, A, n, c, h1, h2, h3, h4, fun b e => by have := h5 b e; omega⟩
end
def sbothC (p : DiskP) (q : RDiskP) (ga : Nat) (P1 P2 : Option Addr) : List Value := [.pointer (some ⟨p.d, 0, none⟩), .pointer (some ⟨ga, 0, none⟩), .pointer P1, .pointer (some ⟨q.d, 0, none⟩), .pointer P2]
/-- The middle of a round: the disk may have gone on, the document's not yet. -/
structure SO (w0 w : World) (base : Nat) (p : DiskP) (q : RDiskP) (ga gb gs gw : Nat) (E D : DiskV) (ts : List Int) (nx rnx : Nat) (cs : List Value) : Prop where
  sd : DiskS w base p E
  sr : RDiskS w base q D
  n1 : q.gi ≠ p.gi
  n2 : q.gi ≠ p.gm
  a : AreaAt w ga p.d 1 8
  bo : Blk w gb 45 cs
  ss : JRowsQ 107 q w base gs ga 4 nx ts
  rw_ : RRowsAt w base gw q 1 8 4 rnx ts
  bel : Below base w0 w
  bs : base ≤ w0.heap.size
  gb_ : base ≤ gb
section
variable {cs : List Value} {w0 w w' : World} {base ga gb gs gw nx rnx nx' : Nat} {p : DiskP} {q : RDiskP} {D E E' D' : DiskV} {ts : List Int}
theorem SO.size (h : SO w0 w base p q ga gb gs gw E D ts nx rnx cs) : base ≤ w.heap.size := Nat.le_trans h.bs h.bel.size
theorem SO.below (h : SO w0 w base p q ga gb gs gw E D ts nx rnx cs) (hb : Below w.heap.size w w') : SO w0 w' base p q ga gb gs gw E D ts nx rnx cs :=
  ⟨h.sd.below hb, h.sr.below hb, h.n1, h.n2, Blk.below h.a hb (Blk.lt h.a), h.bo.below hb h.bo.lt, h.ss.below hb, h.rw_.below hb, h.bel.trans (hb.mono h.size), h.bs, h.gb_⟩
theorem SO.step (h : SO w0 w base p q ga gb gs gw E D ts nx rnx cs) (st : Step mutD base p w w') (hd : DiskS w' base p E') : SO w0 w' base p q ga gb gs gw E' D ts nx rnx cs :=
  ⟨hd, h.sr.step h.sd st h.n1 h.n2 (by decide) (by decide), h.n1, h.n2, h.sd.area h.a st.tch (by decide), h.sd.blk h.bo st.tch (by decide), h.ss.step h.sd st (by decide) (by decide) (by decide), h.rw_.step h.sd st (by decide) (by decide), h.bel.trans st.bel, h.bs, h.gb_⟩
theorem SO.stepJ (h : SO w0 w base p q ga gb gs gw E D ts nx rnx cs) (st : Step mutJ base p w w') (hd : DiskS w' base p E') (hj : JRowsAt 107 w' base gs ga 4 nx' ts) : SO w0 w' base p q ga gb gs gw E' D ts nx' rnx cs :=
  ⟨hd, h.sr.step h.sd st h.n1 h.n2 (by decide) (by decide), h.n1, h.n2, h.sd.area h.a st.tch (by decide), h.sd.blk h.bo st.tch (by decide), h.ss.after h.sd st (by decide) hj, h.rw_.step h.sd st (by decide) (by decide), h.bel.trans st.bel, h.bs, h.gb_⟩
theorem SO.rstep (h : SO w0 w base p q ga gb gs gw E D ts nx rnx cs) (kr : RStep base q w w') (hr : RDiskS w' base q D') : SO w0 w' base p q ga gb gs gw E D' ts nx rnx cs :=
  ⟨h.sd.rstep h.sr kr h.n1 h.n2, hr, h.n1, h.n2, h.sr.blk h.a kr (by decide), h.sr.blk h.bo kr (by decide), h.ss.rstep h.sr kr (by decide), h.rw_.rstep h.sr kr, h.bel.trans kr.bel, h.bs, h.gb_⟩
theorem SO.rput {R : DiskV × Nat × Bool × Int} {e : Ending} (h : SO w0 w base p q ga gb gs gw E D ts nx rnx cs) (hp : RSPutPost w base gw p q 1 8 4 ts E R e w') : SO w0 w' base p q ga gb gs gw E R.1 ts nx R.2.1 cs := by
  obtain ⟨_, h1, h2, h3, h4, h5, h6⟩ := hp
  exact ⟨h2, h1, h.n1, h.n2, h5 _ _ _ (by decide) h.a, h5 _ _ _ (by decide) h.bo, h.ss.far (by decide) h4 h5 h6, h3, h.bel.trans h4, h.bs, h.gb_⟩
theorem DiskS.setS36 {cs : List Value} (h : DiskS w base p E) (hb : Blk w gb 45 cs) (i : Nat) (u : Value) : DiskS (w.setCell ⟨gb, i, none⟩ u) base p E := by
  obtain ⟨A9, c9, h9⟩ := h
  exact ⟨A9, c9, h9.keep (F := (· = gb)) (Keep.one (grown_setCell _)) (fun g hf e => by
    subst e
    rcases h9.foot_ty hb hf with q | q | q | q | q <;> exact absurd q (by decide))⟩
theorem SO.set (h : SO w0 w base p q ga gb gs gw E D ts nx rnx cs) (i : Nat) (u : Value) : SO w0 (w.setCell ⟨gb, i, none⟩ u) base p q ga gb gs gw E D ts nx rnx (cs.set i u) := by
  have st : Step [45] base p w (w.setCell ⟨gb, i, none⟩ u) := Step.one (grown_setCell _) h.bo (by simp) h.gb_ h.size
  exact ⟨h.sd.setS36 h.bo i u, h.sr.step h.sd st h.n1 h.n2 (by decide) (by decide), h.n1, h.n2, h.sd.area h.a st.tch (by decide), h.bo.set_ i u, h.ss.step h.sd st (by decide) (by decide) (by decide), h.rw_.step h.sd st (by decide) (by decide), h.bel.trans st.bel, h.bs, h.gb_⟩
/-- What opening both leaves. -/
def SBPost (w : World) (base : Nat) (p : DiskP) (q : RDiskP) (ga gb : Nat) (P1 P2 : Option Addr) (D : DiskV) (ts : List Int) (R : DiskV × Nat × Int) (e : Ending) (w' : World) : Prop :=
  e = .returned (.bool true) ∧
    ((R.2.2 ≠ 0 ∧ Blk w' gb 45 (sbothC p q ga P1 P2) ∧ ∃ w1, Step mutD base p w w1 ∧ DiskS w1 base p R.1 ∧ RStep base q w1 w' ∧ RDiskS w' base q R.1) ∨
     (R.2.2 = 0 ∧ ∃ gs gw, SO w w' base p q ga gb gs gw R.1 R.1 ts R.2.1 R.2.1 (sbothC p q ga (some ⟨gs, 0, none⟩) (some ⟨gw, 0, none⟩))))
set_option maxRecDepth 100000 in
set_option maxHeartbeats 8000000 in
theorem sbopen_any {P1 P2 : Option Addr} (hd : DiskS w base p D) (hrd : RDiskS w base q D) (n1 : q.gi ≠ p.gi) (n2 : q.gi ≠ p.gm) (ha : AreaAt w ga p.d 1 8) (hb : Blk w gb 45 (sbothC p q ga P1 P2)) (hs : base ≤ w.heap.size) (hgb : base ≤ gb) (hm : D.many = 10) (hw : D.waits.length < 800000)
    (A : Option Addr) (n c : Nat) (ht : RI w A n ts) (hn : n ≤ maxLen) (hlow : 0 < n → ∀ b, A.map (·.block) = some b → b < base) (hr : rightB ts = true) :
    Calls Tryz.prog 14 #[.pointer (some ⟨gb, 0, none⟩), .slice A n c] w (SBPost w base p q ga gb P1 P2 D ts (fOpenV D 1 8 4 ts)) := by
  have y1 : w.cell? ⟨gb, 1, none⟩ = some (.pointer (some ⟨ga, 0, none⟩)) := hb.cell 1
  have c1 := skopen_any ha (by omega) hd hs (by rw [hm]; omega) (by omega) A n c ⟨ht, hn, fun h0 g hg => .inl (hlow h0 g hg)⟩
  have c2 := fun (W : World) (k : Below base w W) => refright_any A n c ts W (ht.low hlow k) hn
  rw [hr] at c2
  have c3 := fun (W : World) (k : Below base w W) (hr' : RDiskS W base q D) => (show Calls Tryz.prog 55 #[.agg #[.pointer (some ⟨q.d, 0, none⟩), .int .i64 1, .int .i64 8], .int .i64 4, .slice A n c] W (RFOpPost W base q 1 8 4 ts (fOpenV D 1 8 4 ts)) from rfopen_any (f := 1) (m := 8) (kind := 4) hr' (Nat.le_trans hs k.size) (by omega) (by rw [hm]; omega) (by omega) (by omega) A n c (ht.low hlow k) hn hlow hr)
  have hgo : q.go < w.heap.size := by obtain ⟨_, _, _, cs, hb⟩ := hrd.kinds; exact hb.lt
  have HD := Lib.hid hd
  have HR := Lib.hid hrd
  have HA := Lib.hid ha
  have HB := Lib.hid hb
  generalize fOpenV D 1 8 4 ts = R at *
  obtain ⟨D', nx, z⟩ := R
  try simp only at c1 c3
  clear hd hrd ha hb ht hlow
  by_cases hz : z = 0
  · subst hz
    go_enter Tryz.func14, Tryz.ntmps14
    go_wp2_with (first
      | ((go_at_call 10; (with_reducible refine (c1).mono ?_); rintro e w1 ⟨P, rfl, n9, y9, h1, st1⟩); obtain ⟨gs, rfl, g9, j9⟩ := y9 rfl; have R1 := Lib.hid (HR.out.step HD.out st1 n1 n2 (by decide) (by decide)); have A1 := Lib.hid (HD.out.area HA.out st1.tch (by decide)); have X1 := Lib.hid (HD.out.blk HB.out st1.tch (by decide)); have D1 := Lib.hid h1; have S1 := Lib.hid st1; have J1 := Lib.hid (j9.toQ hgo); have y3 : w1.cell? ⟨gb, 3, none⟩ = some (.pointer (some ⟨q.d, 0, none⟩)) := X1.out.cell 3; clear n9 y9 h1 st1 j9)
      | (go_at_call 54; (with_reducible refine (c2 _ S1.out.bel).mono ?_); rintro e w2 ⟨rfl, rfl⟩)
      | ((go_at_call 55; (with_reducible refine (c3 _ S1.out.bel R1.out).mono ?_); rintro e w2 ⟨P, rfl, n9, y9, h2, k2⟩); obtain ⟨gw, rfl, g9, j9⟩ := y9 rfl; have SO2 := Lib.hid (show SO w w2 base p q ga gb gs gw D' D' ts nx nx (sbothC p q ga P1 P2) from ⟨D1.out.rstep R1.out k2 n1 n2, h2, n1, n2, R1.out.blk A1.out k2 (by decide), R1.out.blk X1.out k2 (by decide), J1.out.rstep R1.out k2 (by decide), j9, S1.out.bel.trans k2.bel, hs, hgb⟩); have lt2 := SO2.out.bo.lt; have f2 := SO2.out.bo.frozen 2; have f4 := SO2.out.bo.frozen 4; have e2 : w2.cell? ⟨gb, 2, none⟩ = some (.pointer P1) := SO2.out.bo.cell 2; have e4 : w2.cell? ⟨gb, 4, none⟩ = some (.pointer P2) := SO2.out.bo.cell 4; clear n9 y9 h2 k2 j9)
      | fail "no arm")
    go_ret
    exact ⟨rfl, .inr ⟨rfl, gs, gw, (SO2.out.set 2 _).set 4 _⟩⟩
  · have hne : (z == 0) = false := by rw [beq_eq_false_iff_ne]; exact hz
    have hne2 : (z != 0) = true := by rw [bne_iff_ne]; exact hz
    have HZ := Lib.hid hz
    clear hz
    go_enter Tryz.func14, Tryz.ntmps14
    go_wp2_with (first
      | ((go_at_call 10; (with_reducible refine (c1).mono ?_); rintro e w1 ⟨P, rfl, n9, y9, h1, st1⟩); obtain rfl := n9 HZ.out; have R1 := Lib.hid (HR.out.step HD.out st1 n1 n2 (by decide) (by decide)); have X1 := Lib.hid (HD.out.blk HB.out st1.tch (by decide)); have D1 := Lib.hid h1; have S1 := Lib.hid st1; have y3 : w1.cell? ⟨gb, 3, none⟩ = some (.pointer (some ⟨q.d, 0, none⟩)) := X1.out.cell 3; clear n9 y9 h1 st1)
      | (go_at_call 54; (with_reducible refine (c2 _ S1.out.bel).mono ?_); rintro e w2 ⟨rfl, rfl⟩)
      | ((go_at_call 55; (with_reducible refine (c3 _ S1.out.bel R1.out).mono ?_); rintro e w2 ⟨P, rfl, n9, y9, h2, k2⟩); obtain rfl := n9 HZ.out; have H2 := Lib.hid h2; have K2 := Lib.hid k2; clear n9 y9 h2 k2)
      | fail "no arm")
    go_ret
    exact ⟨rfl, .inl ⟨HZ.out, R1.out.blk X1.out K2.out (by decide), _, S1.out, D1.out, K2.out, H2.out⟩⟩
end
end Go.Proofs.YtalmdccgpigppaaGreat
namespace Go.Proofs.YtalmdccgpigppaaGreat
open Go.RowKit

theorem intAt_inj {l m : List Int} (h : l.length = m.length) (hall : ∀ i, i < l.length → intAt l i = intAt m i) : l = m := by
  apply List.ext_getElem h
  intro i h1 h2
  have := hall i h1
  simpa [intAt, List.getD_eq_getElem?_getD, h1, h2] using this
set_option maxHeartbeats 400000 in
theorem ints_any (A B : Option Addr) (n m c d : Nat) (l k : List Int) (w : World) (ha : RI w A n l) (hb : RI w B m k) (hn : n ≤ maxLen) :
    Calls Tryz.prog 42 #[.slice A n c, .slice B m d] w fun e w' => e = .returned (.bool (decide (l = k))) ∧ ∃ q, w' = w.drewN q := by
  unfold maxLen at hn
  by_cases hnm : n = m
  · subst hnm
    have hlen : l.length = k.length := ha.1.trans hb.1.symm
    have hl := Lib.hid ha.1
    have hk := Lib.hid hlen
    have hnn : (((n : Nat) : Int) != (n : Int)) = false := by simp
    clear hlen
    generalize hz : decide (l = k) = z
    have Hz := Lib.hid hz; clear hz
    go_enter Tryz.func42, Tryz.ntmps42
    go_wp2
    go_loopw [5] (fun i wr => ∃ j q, j ≤ n ∧ i = .int .i64 (j : Nat) ∧ Hid (∀ i, i < j → intAt l i = intAt k i) ∧ wr = w.drewN q) (fun i _ => n - (intOf i).toNat)
    case atStart => exact ⟨0, 0, Nat.zero_le _, rfl, fun i hi => absurd hi (by omega), rfl⟩
    case round =>
      obtain ⟨j, q, hj, rfl, hall, rfl⟩ := hrel
      by_cases hlt : j < n
      · obtain ⟨b0, o0, rfl, _, hc0⟩ := ha.at_ hlt
        obtain ⟨b1, o1, rfl, _, hc1⟩ := hb.at_ hlt
        have hlt' : (j : Int) < n := by omega
        by_cases heq : intAt l j = intAt k j
        · have hE := Lib.hid heq
          have hne : ((intAt l j) != (intAt k j)) = false := by simp [heq]
          clear heq
          go_wp2
          go_quiet (fail)
          go_wp2
          go_roundw
          case rel =>
            refine ⟨j + 1, q + nq, by omega, by go_num, fun i hi => ?_, rfl⟩
            rcases Nat.lt_or_ge i j with h | h
            · exact hall.out i h
            · rw [show i = j from by omega]; exact hE.out
          case measure => simp [intOf]; omega
        · have hE := Lib.hid heq
          have hne : ((intAt l j) != (intAt k j)) = true := by
            rw [bne_iff_ne]; exact heq
          clear heq
          go_wp2
          go_quiet (fail)
          go_wp2
          go_ret
          refine ⟨ret_bool ?_, q + nq, World.drewN_drewN _ _ _⟩
          rw [← Hz.out, eq_comm, decide_eq_false_iff_not]
          rintro rfl
          exact hE.out rfl
      · go_wp2
        go_ret
        refine ⟨ret_bool ?_, _, rfl⟩
        rw [← Hz.out, eq_comm, decide_eq_true_eq]
        exact intAt_inj hk.out (fun i hi => hall.out i (by have := hl.out; omega))
  · have hne : (((n : Nat) : Int) != (m : Int)) = true := by rw [bne_iff_ne]; omega
    have hz : decide (l = k) = false := by
      rw [decide_eq_false_iff_not]; rintro rfl; exact hnm (ha.1.symm.trans hb.1)
    rw [hz]
    clear hz hnm
    go_enter Tryz.func42, Tryz.ntmps42
    go_wp2
    go_ret
    exact ⟨rfl, 0, rfl⟩
end Go.Proofs.YtalmdccgpigppaaGreat
