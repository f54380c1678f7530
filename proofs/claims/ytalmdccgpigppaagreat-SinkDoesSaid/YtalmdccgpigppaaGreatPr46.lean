/- Parts: RFeedA. -/
import Derived.Test.YtalmdccgpigppaaGreatPr32
import Derived.Test.YtalmdccgpigppaaGreatPr33
import Derived.Test.YtalmdccgpigppaaGreatPr43
import Derived.Test.YtalmdccgpigppaaGreatPr45
namespace Go.Proofs.YtalmdccgpigppaaGreat
open Go.RowKit
set_option linter.unusedVariables false
set_option linter.unusedSimpArgs false
section
variable {w w' : World} {base g f m next : Nat} {kind : Int} {q : RDiskP} {D : DiskV}
theorem RDiskS.ints (h : RDiskS w base q D) {g : Nat} {cs : List Value} (hb : Blk w g 3 cs) (k : RStep base q w w') (hg : g ≠ q.go) : Blk w' g 3 cs := by
  obtain ⟨F, hF, tF⟩ := k.tch
  obtain ⟨_, ⟨c1, b1⟩, ⟨c2, b2⟩, _⟩ := h.kinds
  refine hb.keep hF (fun e => ?_)
  rcases tF g _ cs e hb with q1 | q1 | q1 | q1 | q1
  · exact absurd q1 (by decide)
  · exact absurd q1 (by decide)
  · exact hb.ne_ b1 (by decide) q1
  · exact hb.ne_ b2 (by decide) q1
  · exact hg q1
set_option maxRecDepth 100000 in
set_option maxHeartbeats 4000000 in
theorem rjgetB_any (h : RJrnAt w g q f m kind next) (hd : RDiskS w base q D) (hs : base ≤ w.heap.size) (hfm : f + m ≤ D.many) (hnm : next ≤ 4096) (n : Int) :
    Calls Tryz.prog 116 #[.pointer (some ⟨g, 0, none⟩), .int .i64 n] w fun e w' => ∃ B k d, e = .returned (.tuple #[.slice B k d, .int .i64 (jGetV D f m kind next n).2.2]) ∧ (RB w' B k (jGetV D f m kind next n).2.1 ∧ k ≤ d ∧ d ≤ maxLen) ∧ RDiskS w' base q (jGetV D f m kind next n).1 ∧ RStep base q w w' := by
  have c0 : w.cell? ⟨g, 0, none⟩ = some (.pointer (some ⟨q.d, 0, none⟩)) := Blk.cell h 0
  have c1 : w.cell? ⟨g, 1, none⟩ = some (.int .i64 (f : Nat)) := Blk.cell h 1
  have c2 : w.cell? ⟨g, 2, none⟩ = some (.int .i64 (m : Nat)) := Blk.cell h 2
  have c3 : w.cell? ⟨g, 3, none⟩ = some (.int .i64 kind) := Blk.cell h 3
  have c4 : w.cell? ⟨g, 4, none⟩ = some (.int .i64 (next : Int)) := Blk.cell h 4
  unfold jGetV
  by_cases hn : n < 0 ∨ (next : Int) ≤ n
  · rw [if_pos hn]
    have hc : n < 0 ∨ (0 ≤ n ∧ (next : Int) ≤ n) := by omega
    have HD := Lib.hid hd
    clear h hd hn
    rcases hc with h1 | ⟨h1, h2⟩
    all_goals
      go_enter Tryz.func116, Tryz.ntmps116
      go_wp2
      go_ret2
      exact ⟨none, 0, 0, rfl, ⟨⟨rfl, Row.nil _ _ _⟩, by omega, by unfold maxLen; omega⟩, HD.out, RStep.refl _ _ _⟩
  · rw [if_neg hn]
    have h1 : 0 ≤ n := by omega
    have h2 : n < next := by omega
    have htk := ra_takeB (w := w.drew) hd.drew hs hfm n kind
    have HJ := Lib.hid h
    have HD := Lib.hid hd
    clear h hd hn
    generalize aTakeV D f m n kind = T at *
    generalize (aReadV D f m n).1 = D' at *
    obtain ⟨N, L, er⟩ := T
    simp only at htk ⊢
    by_cases her : er = 0
    · subst her
      rw [if_neg (by simp)]
      by_cases hN : N = n
      · subst hN
        rw [if_neg (by simp)]
        have hne : (N != N) = false := by simp
        go_enter Tryz.func116, Tryz.ntmps116
        go_wp2_with fail
        go_region_held3 (fun w' => w'.cell? ⟨g, 0, none⟩ = some (.pointer (some ⟨q.d, 0, none⟩)) ∧ w'.cell? ⟨g, 1, none⟩ = some (.int .i64 (f : Nat)) ∧ w'.cell? ⟨g, 2, none⟩ = some (.int .i64 (m : Nat)) ∧ w'.cell? ⟨g, 3, none⟩ = some (.int .i64 kind)) (first | go_keep | (refine ⟨?_, ?_, ?_, ?_⟩ <;> assumption)) (first
          | ((go_at_call 160; (with_reducible refine (htk).mono ?_); rintro e w2 ⟨B, k, d, rfl, o2, q2, h2, s2⟩); have hj2 := HD.out.drew.blk (Blk.drew HJ.out) s2 (by decide); have y0 : w2.cell? ⟨g, 0, none⟩ = some (.pointer (some ⟨q.d, 0, none⟩)) := hj2.cell 0; have y1 : w2.cell? ⟨g, 1, none⟩ = some (.int .i64 (f : Nat)) := hj2.cell 1; have y2 : w2.cell? ⟨g, 2, none⟩ = some (.int .i64 (m : Nat)) := hj2.cell 2; have y3 : w2.cell? ⟨g, 3, none⟩ = some (.int .i64 kind) := hj2.cell 3)
          | fail "no arm")
        go_wp2
        go_ret2
        exact ⟨B, k, d, rfl, ⟨o2, (q2 (by trivial)).1, (q2 (by trivial)).2.1⟩, h2, s2.of_drew⟩
      · rw [if_pos hN]
        have hne : (N != n) = true := by rw [bne_iff_ne]; exact hN
        go_enter Tryz.func116, Tryz.ntmps116
        go_wp2_with fail
        go_region_held3 (fun w' => w'.cell? ⟨g, 0, none⟩ = some (.pointer (some ⟨q.d, 0, none⟩)) ∧ w'.cell? ⟨g, 1, none⟩ = some (.int .i64 (f : Nat)) ∧ w'.cell? ⟨g, 2, none⟩ = some (.int .i64 (m : Nat)) ∧ w'.cell? ⟨g, 3, none⟩ = some (.int .i64 kind)) (first | go_keep | (refine ⟨?_, ?_, ?_, ?_⟩ <;> assumption)) (first
          | ((go_at_call 160; (with_reducible refine (htk).mono ?_); rintro e w2 ⟨B, k, d, rfl, o2, q2, h2, s2⟩); have hj2 := HD.out.drew.blk (Blk.drew HJ.out) s2 (by decide); have y0 : w2.cell? ⟨g, 0, none⟩ = some (.pointer (some ⟨q.d, 0, none⟩)) := hj2.cell 0; have y1 : w2.cell? ⟨g, 1, none⟩ = some (.int .i64 (f : Nat)) := hj2.cell 1; have y2 : w2.cell? ⟨g, 2, none⟩ = some (.int .i64 (m : Nat)) := hj2.cell 2; have y3 : w2.cell? ⟨g, 3, none⟩ = some (.int .i64 kind) := hj2.cell 3)
          | fail "no arm")
        go_wp2
        go_ret2
        exact ⟨none, 0, 0, rfl, ⟨⟨rfl, Row.nil _ _ _⟩, by omega, by unfold maxLen; omega⟩, h2, s2.of_drew⟩
    · rw [if_pos her]
      have hne : (er != 0) = true := by rw [bne_iff_ne]; exact her
      clear her
      go_enter Tryz.func116, Tryz.ntmps116
      go_wp2_with fail
      go_region_held3 (fun w' => w'.cell? ⟨g, 0, none⟩ = some (.pointer (some ⟨q.d, 0, none⟩)) ∧ w'.cell? ⟨g, 1, none⟩ = some (.int .i64 (f : Nat)) ∧ w'.cell? ⟨g, 2, none⟩ = some (.int .i64 (m : Nat)) ∧ w'.cell? ⟨g, 3, none⟩ = some (.int .i64 kind)) (first | go_keep | (refine ⟨?_, ?_, ?_, ?_⟩ <;> assumption)) (first
        | ((go_at_call 160; (with_reducible refine (htk).mono ?_); rintro e w2 ⟨B, k, d, rfl, o2, q2, h2, s2⟩); have hj2 := HD.out.drew.blk (Blk.drew HJ.out) s2 (by decide); have y0 : w2.cell? ⟨g, 0, none⟩ = some (.pointer (some ⟨q.d, 0, none⟩)) := hj2.cell 0; have y1 : w2.cell? ⟨g, 1, none⟩ = some (.int .i64 (f : Nat)) := hj2.cell 1; have y2 : w2.cell? ⟨g, 2, none⟩ = some (.int .i64 (m : Nat)) := hj2.cell 2; have y3 : w2.cell? ⟨g, 3, none⟩ = some (.int .i64 kind) := hj2.cell 3)
        | fail "no arm")
      go_wp2
      go_ret2
      exact ⟨none, 0, 0, rfl, ⟨⟨rfl, Row.nil _ _ _⟩, by omega, by unfold maxLen; omega⟩, h2, s2.of_drew⟩
/-- What the document's Add leaves; of blocks of ints, too. -/
def RAddPostB (w : World) (base g : Nat) (p : DiskP) (q : RDiskP) (f m : Nat) (kind : Int) (E : DiskV) (R : DiskV × Nat × Int × Int) (e : Ending) (w' : World) : Prop :=
  e = .returned (.tuple #[.int .i64 R.2.2.1, .int .i64 R.2.2.2]) ∧ RDiskS w' base q R.1 ∧ DiskS w' base p E ∧ RJrnAt w' g q f m kind R.2.1 ∧ Below base w w' ∧
    (∀ (g' : Nat) (t : TypeId) (cs : List Value), g' ≠ g → t ∉ [119, 169, 22, 4, 3] → Blk w g' t cs → Blk w' g' t cs) ∧
    (∀ (g' : Nat) (cs : List Value), g' ≠ q.go → Blk w g' 3 cs → Blk w' g' 3 cs)
set_option maxRecDepth 100000 in
set_option maxHeartbeats 4000000 in
theorem rjaddB_any {p : DiskP} {E : DiskV} (h : RJrnAt w g q f m kind next) (hd : RDiskS w base q D) (hp : DiskS w base p E) (n1 : q.gi ≠ p.gi) (n2 : q.gi ≠ p.gm) (hs : base ≤ w.heap.size) (hg : base ≤ g) (hfm : f + m ≤ D.many) (hm : m ≤ 4096) (hnm : next ≤ m) (hw : D.waits.length < 1000000) (B : Option Addr) (k d : Nat) (l : List UInt8) (hl : RB w B k l) (hk : k ≤ maxLen) :
    Calls Tryz.prog 173 #[.pointer (some ⟨g, 0, none⟩), .slice B k d] w (RAddPostB w base g p q f m kind E (jAddV D f m kind next l)) := by
  have c0 : w.cell? ⟨g, 0, none⟩ = some (.pointer (some ⟨q.d, 0, none⟩)) := Blk.cell h 0
  have c1 : w.cell? ⟨g, 1, none⟩ = some (.int .i64 (f : Nat)) := Blk.cell h 1
  have c2 : w.cell? ⟨g, 2, none⟩ = some (.int .i64 (m : Nat)) := Blk.cell h 2
  have c3 : w.cell? ⟨g, 3, none⟩ = some (.int .i64 kind) := Blk.cell h 3
  have c4 : w.cell? ⟨g, 4, none⟩ = some (.int .i64 (next : Int)) := Blk.cell h 4
  have hlen := hl.1
  have HD := Lib.hid hd
  have HP := Lib.hid hp
  have HJ := Lib.hid h
  unfold jAddV
  unfold maxLen at hk
  by_cases h1 : 113 < l.length
  · rw [if_pos h1]
    rw [hlen] at h1
    clear h hd hl hp
    go_enter Tryz.func173, Tryz.ntmps173
    go_wp2
    go_ret2
    exact ⟨rfl, HD.out, HP.out, HJ.out, Below.refl _ _, fun _ _ _ _ _ h => h, fun _ _ _ h => h⟩
  · rw [if_neg h1]
    rw [hlen] at h1
    by_cases h2 : m = next
    · rw [if_pos h2]
      subst h2
      clear h hd hl hp
      go_enter Tryz.func173, Tryz.ntmps173
      go_wp2_with fail
      go_quiet (fail)
      go_wp2
      go_ret2
      have hb : Below w.heap.size w (w.drewN nq) := below_drewN (Below.refl _ _) nq
      exact ⟨rfl, HD.out.below hb, HP.out.below hb, Blk.drewN HJ.out nq, hb.mono hs, fun _ _ _ _ _ h => Blk.drewN h nq, fun _ _ _ h => Blk.drewN h nq⟩
    · rw [if_neg h2]
      have h3 : (next : Int) < m := by omega
      have hput := fun q9 => ra_put (w := w.drewN q9) (d := d) (hd.below (below_drewN (Below.refl _ _) q9)) hs hfm next kind next B k l (hl.below (below_drewN (Below.refl _ _) q9) (Nat.le_refl _)) (by unfold maxLen; omega) (by omega) hw
      generalize aPutV D f m next kind next l = P at *
      obtain ⟨D', z⟩ := P
      simp only at hput ⊢
      by_cases hzz : z = 0
      · subst hzz
        rw [if_neg (by simp)]
        clear h hd hl h2 hp
        go_enter Tryz.func173, Tryz.ntmps173
        go_wp2_with fail
        go_quiet (fail)
        go_wp2_with fail
        go_region_held3 (fun w' => w'.cell? ⟨g, 0, none⟩ = some (.pointer (some ⟨q.d, 0, none⟩)) ∧ w'.cell? ⟨g, 1, none⟩ = some (.int .i64 (f : Nat)) ∧ w'.cell? ⟨g, 2, none⟩ = some (.int .i64 (m : Nat)) ∧ w'.cell? ⟨g, 3, none⟩ = some (.int .i64 kind) ∧ w'.cell? ⟨g, 4, none⟩ = some (.int .i64 (next : Int))) (first | go_keep | (refine ⟨?_, ?_, ?_, ?_, ?_⟩ <;> assumption)) (first
          | ((go_at_call 144; (with_reducible refine (hput (nq + 1)).mono ?_); rintro e w3 ⟨rfl, r3, k3⟩); have hj3 := (HD.out.below (below_drewN (Below.refl _ _) (nq + 1))).blk (Blk.drewN HJ.out (nq + 1)) k3 (by decide); have y0 : w3.cell? ⟨g, 0, none⟩ = some (.pointer (some ⟨q.d, 0, none⟩)) := hj3.cell 0; have y1 : w3.cell? ⟨g, 1, none⟩ = some (.int .i64 (f : Nat)) := hj3.cell 1; have y2 : w3.cell? ⟨g, 2, none⟩ = some (.int .i64 (m : Nat)) := hj3.cell 2; have y3 : w3.cell? ⟨g, 3, none⟩ = some (.int .i64 kind) := hj3.cell 3; have y4 : w3.cell? ⟨g, 4, none⟩ = some (.int .i64 (next : Int)) := hj3.cell 4; have f4 := hj3.frozen 4; have p3 := (HP.out.below (below_drewN (Below.refl _ _) (nq + 1))).rstep (HD.out.below (below_drewN (Below.refl _ _) (nq + 1))) k3 n1 n2; have S3 : Below base w w3 := ((below_drewN (Below.refl _ _) (nq + 1)).mono hs).trans k3.bel; have o3 : (∀ (g' : Nat) (t : TypeId) (cs : List Value), t ∉ [119, 169, 22, 4, 3] → Blk w g' t cs → Blk w3 g' t cs) := fun g' t cs ht hb => (HD.out.below (below_drewN (Below.refl _ _) (nq + 1))).blk (Blk.drewN hb (nq + 1)) k3 ht; have o4 : (∀ (g' : Nat) (cs : List Value), g' ≠ q.go → Blk w g' 3 cs → Blk w3 g' 3 cs) := fun g' cs hne hb => (HD.out.below (below_drewN (Below.refl _ _) (nq + 1))).ints (Blk.drewN hb (nq + 1)) k3 hne)
          | fail "no arm")
        go_wp2
        go_ret2
        have hset : RJrnAt (w3.setCell ⟨g, 4, none⟩ (.int .i64 ((next : Int) + 1))) g q f m kind (next + 1) := Blk.set_ hj3 4 _
        have st : Step [53] base p w3 (w3.setCell ⟨g, 4, none⟩ (.int .i64 ((next : Int) + 1))) := Step.one (grown_setCell _) hj3 (by decide) hg (by have := S3.size; omega)
        obtain ⟨A9, c9, h9⟩ := p3
        have hnf : ¬ foot p A9 g := fun e => by rcases h9.foot_ty hj3 e with q | q | q | q | q <;> exact absurd q (by decide)
        refine ⟨by first | rfl | (show _ = _; congr 4; go_arith), r3.step ⟨A9, c9, h9⟩ st n1 n2 (by decide) (by decide), ⟨A9, c9, h9.keep (F := (· = g)) (Keep.one (grown_setCell _)) (fun g9 hg9 e => hnf (e ▸ hg9))⟩, hset, S3.trans st.bel, fun g' t cs hne ht hb => Blk.far (o3 g' t cs ht hb) hne _, fun g' cs hne hb => Blk.far (o4 g' cs hne hb) (Blk.ne_ hb (show Blk w g 53 _ from HJ.out) (by decide)) _⟩
      · rw [if_pos hzz]
        have hne : (z != 0) = true := by rw [bne_iff_ne]; exact hzz
        clear h hd hl h2 hp hzz
        go_enter Tryz.func173, Tryz.ntmps173
        go_wp2_with fail
        go_quiet (fail)
        go_wp2_with fail
        go_region_held3 (fun w' => w'.cell? ⟨g, 0, none⟩ = some (.pointer (some ⟨q.d, 0, none⟩)) ∧ w'.cell? ⟨g, 1, none⟩ = some (.int .i64 (f : Nat)) ∧ w'.cell? ⟨g, 2, none⟩ = some (.int .i64 (m : Nat)) ∧ w'.cell? ⟨g, 3, none⟩ = some (.int .i64 kind) ∧ w'.cell? ⟨g, 4, none⟩ = some (.int .i64 (next : Int))) (first | go_keep | (refine ⟨?_, ?_, ?_, ?_, ?_⟩ <;> assumption)) (first
          | ((go_at_call 144; (with_reducible refine (hput (nq + 1)).mono ?_); rintro e w3 ⟨rfl, r3, k3⟩); have hj3 := (HD.out.below (below_drewN (Below.refl _ _) (nq + 1))).blk (Blk.drewN HJ.out (nq + 1)) k3 (by decide); have y0 : w3.cell? ⟨g, 0, none⟩ = some (.pointer (some ⟨q.d, 0, none⟩)) := hj3.cell 0; have y1 : w3.cell? ⟨g, 1, none⟩ = some (.int .i64 (f : Nat)) := hj3.cell 1; have y2 : w3.cell? ⟨g, 2, none⟩ = some (.int .i64 (m : Nat)) := hj3.cell 2; have y3 : w3.cell? ⟨g, 3, none⟩ = some (.int .i64 kind) := hj3.cell 3; have y4 : w3.cell? ⟨g, 4, none⟩ = some (.int .i64 (next : Int)) := hj3.cell 4; have f4 := hj3.frozen 4; have p3 := (HP.out.below (below_drewN (Below.refl _ _) (nq + 1))).rstep (HD.out.below (below_drewN (Below.refl _ _) (nq + 1))) k3 n1 n2; have S3 : Below base w w3 := ((below_drewN (Below.refl _ _) (nq + 1)).mono hs).trans k3.bel; have o3 : (∀ (g' : Nat) (t : TypeId) (cs : List Value), t ∉ [119, 169, 22, 4, 3] → Blk w g' t cs → Blk w3 g' t cs) := fun g' t cs ht hb => (HD.out.below (below_drewN (Below.refl _ _) (nq + 1))).blk (Blk.drewN hb (nq + 1)) k3 ht; have o4 : (∀ (g' : Nat) (cs : List Value), g' ≠ q.go → Blk w g' 3 cs → Blk w3 g' 3 cs) := fun g' cs hne hb => (HD.out.below (below_drewN (Below.refl _ _) (nq + 1))).ints (Blk.drewN hb (nq + 1)) k3 hne)
          | fail "no arm")
        go_wp2
        go_ret2
        exact ⟨rfl, r3, p3, hj3, S3, fun g' t cs _ ht hb => o3 g' t cs ht hb, o4⟩
end
/-- The document's journal of rows; its types lie in old memory. -/
def RRowsAt (w : World) (base g : Nat) (q : RDiskP) (f m : Nat) (kind : Int) (next : Nat) (ts : List Int) : Prop :=
  ∃ gj A n c, Blk w g 56 [.pointer (some ⟨gj, 0, none⟩), .slice A n c] ∧ base ≤ gj ∧ RJrnAt w gj q f m kind next ∧ RI w A n ts ∧ n ≤ maxLen ∧ (0 < n → ∀ b, A.map (·.block) = some b → b < base)
theorem RI.low {w w' : World} {base n : Nat} {A : Option Addr} {l : List Int} (h : RI w A n l) (hb : 0 < n → ∀ b, A.map (·.block) = some b → b < base) (k : Below base w w') : RI w' A n l :=
  ⟨h.1, fun h0 => (h.2.sameB k.size (fun b e _ => k.block b (hb h0 b e))) h0⟩
section
variable {w w' : World} {base g f m next : Nat} {kind : Int} {ts l : List Int} {q : RDiskP} {p : DiskP} {D E : DiskV} {M : List TypeId}
theorem RRowsAt.rstep (h : RRowsAt w base g q f m kind next ts) (hd : RDiskS w base q D) (k : RStep base q w w') : RRowsAt w' base g q f m kind next ts := by
  obtain ⟨gj, A, n, c, h1, h2, h3, h4, h5, h6⟩ := h
  exact ⟨gj, A, n, c, hd.blk h1 k (by decide), h2, hd.blk h3 k (by decide), h4.low h6 k.bel, h5, h6⟩
theorem RRowsAt.step (h : RRowsAt w base g q f m kind next ts) (hd : DiskS w base p E) (k : Step M base p w w') (h1 : 56 ∉ 4 :: M) (h2 : 53 ∉ 4 :: M) : RRowsAt w' base g q f m kind next ts := by
  obtain ⟨gj, A, n, c, a1, a2, a3, a4, a5, a6⟩ := h
  exact ⟨gj, A, n, c, hd.blk a1 k.tch h1, a2, hd.blk a3 k.tch h2, a4.low a6 k.bel, a5, a6⟩
theorem RRowsAt.below (h : RRowsAt w base g q f m kind next ts) (hb : Below w.heap.size w w') : RRowsAt w' base g q f m kind next ts := by
  obtain ⟨gj, A, n, c, h1, h2, h3, h4, h5, h6⟩ := h
  exact ⟨gj, A, n, c, h1.below hb h1.lt, h2, Blk.below h3 hb (Blk.lt h3), h4.below hb (Nat.le_refl _), h5, h6⟩
set_option maxRecDepth 100000 in
set_option maxHeartbeats 4000000 in
theorem rrget_any (h : RRowsAt w base g q f m kind next ts) (hd : RDiskS w base q D) (hs : base ≤ w.heap.size) (hfm : f + m ≤ D.many) (hnm : next ≤ 4096) (n : Int) :
    Calls Tryz.prog 57 #[.pointer (some ⟨g, 0, none⟩), .int .i64 n] w fun e w' => ∃ B k d, e = .returned (.tuple #[.slice B k d, .int .i64 (fGetV D f m kind next ts n).2.2]) ∧ RI w' B k (fGetV D f m kind next ts n).2.1 ∧ RDiskS w' base q (fGetV D f m kind next ts n).1 ∧ RStep base q w w' := by
  have HH := Lib.hid h
  obtain ⟨gj, A, na, c, hb, hg, hj, hi, hna, hlow⟩ := h
  have c0 : w.cell? ⟨g, 0, none⟩ = some (.pointer (some ⟨gj, 0, none⟩)) := hb.cell 0
  have hget := rjgetB_any hj hd hs hfm hnm n
  have HB := Lib.hid hb
  have HI := Lib.hid (fun (W : World) (k : Below base w W) => hi.low hlow k)
  have HD := Lib.hid hd
  obtain ⟨R, hR⟩ : ∃ R, R = jGetV D f m kind next n := ⟨_, rfl⟩
  rw [← hR] at hget
  obtain ⟨X, hX⟩ : ∃ X, X = fGetV D f m kind next ts n := ⟨_, rfl⟩
  have hXR : X = if R.2.2 ≠ 0 then (R.1, [], R.2.2) else if (readR ts R.2.1).2 ≠ 0 then (R.1, [], 41) else (R.1, (readR ts R.2.1).1, 0) := by rw [hX, hR]; rfl
  rw [← hX]
  have HX := Lib.hid hXR
  clear hb hi hd hj hX hR hXR hlow
  obtain ⟨D1, bs, z⟩ := R
  simp only at hget HX
  by_cases hz : z = 0
  · subst hz
    have HX2 := Lib.hid (show X = if (readR ts bs).2 ≠ 0 then (D1, [], 41) else (D1, (readR ts bs).1, 0) from by rw [HX.out, if_neg (by simp)])
    clear HX
    have hrd := fun (W : World) (B : Option Addr) (k d : Nat) (r1 : RI W A na ts) (r2 : RB W B k bs) (hk : k ≤ d) (hd : d ≤ maxLen) => refread_row A B na k c d ts bs W r1 r2 hna hk hd
    generalize hrr : readR ts bs = rr at *
    obtain ⟨l2, e2⟩ := rr
    clear hrr
    simp only at HX2
    by_cases he : e2 = 0
    · subst he
      have HXX := Lib.hid (show X = (D1, l2, 0) from by rw [HX2.out, if_neg (by simp)])
      clear HX2
      go_enter Tryz.func57, Tryz.ntmps57
      go_wp2_with (first
        | ((go_at_call 116; (with_reducible refine (hget).mono ?_); rintro e w1 ⟨B1, k1, d1, rfl, o1, h1, st1⟩); have H1 := Lib.hid h1; have ST1 := Lib.hid st1; have I1 := Lib.hid (HI.out _ st1.bel); have OB1 := Lib.hid o1.1; have cp1 := o1.2; have s1 := st1.size; have hbk : Blk w1 g 56 [.pointer (some ⟨gj, 0, none⟩), .slice A na c] := HD.out.blk HB.out st1 (by decide); have x1 : w1.cell? ⟨g, 1, none⟩ = some (.slice A na c) := hbk.cell 1; clear o1 h1 st1 hbk)
        | ((go_at_call 117; (with_reducible refine (hrd _ _ _ _ I1.out OB1.out cp1.1 cp1.2).mono ?_); rintro e w2 ⟨B2, k2, d2, rfl, o2, b2⟩); have H2 := Lib.hid (H1.out.below b2); have ST2 := Lib.hid (ST1.out.then_below (b2.mono s1) hs); have O2 := Lib.hid (o2.rebase (base' := w.heap.size) s1); clear o2 b2)
        | fail "no arm")
      go_ret2
      rw [HXX.out]
      exact ⟨B2, k2, d2, rfl, O2.out.rd.ri, H2.out, ST2.out⟩
    · have heb : (e2 != 0) = true := by rw [bne_iff_ne]; exact he
      have heI : (((e2 : Nat) : Int) != 0) = true := by rw [bne_iff_ne]; omega
      have HXX := Lib.hid (show X = (D1, [], 41) from by rw [HX2.out, if_pos he])
      clear HX2 he
      go_enter Tryz.func57, Tryz.ntmps57
      go_wp2_with (first
        | ((go_at_call 116; (with_reducible refine (hget).mono ?_); rintro e w1 ⟨B1, k1, d1, rfl, o1, h1, st1⟩); have H1 := Lib.hid h1; have ST1 := Lib.hid st1; have I1 := Lib.hid (HI.out _ st1.bel); have OB1 := Lib.hid o1.1; have cp1 := o1.2; have s1 := st1.size; have hbk : Blk w1 g 56 [.pointer (some ⟨gj, 0, none⟩), .slice A na c] := HD.out.blk HB.out st1 (by decide); have x1 : w1.cell? ⟨g, 1, none⟩ = some (.slice A na c) := hbk.cell 1; clear o1 h1 st1 hbk)
        | ((go_at_call 117; (with_reducible refine (hrd _ _ _ _ I1.out OB1.out cp1.1 cp1.2).mono ?_); rintro e w2 ⟨B2, k2, d2, rfl, o2, b2⟩); have H2 := Lib.hid (H1.out.below b2); have ST2 := Lib.hid (ST1.out.then_below (b2.mono s1) hs); have O2 := Lib.hid (o2.rebase (base' := w.heap.size) s1); clear o2 b2)
        | fail "no arm")
      go_ret2
      rw [HXX.out]
      exact ⟨none, 0, 0, rfl, ⟨rfl, Row.nil _ _ _⟩, H2.out, ST2.out⟩
  · have hzb : (z != 0) = true := by rw [bne_iff_ne]; exact hz
    have HXX := Lib.hid (show X = (D1, [], z) from by rw [HX.out, if_pos hz])
    clear HX hz
    go_enter Tryz.func57, Tryz.ntmps57
    go_wp2_with (first
      | ((go_at_call 116; (with_reducible refine (hget).mono ?_); rintro e w1 ⟨B1, k1, d1, rfl, o1, h1, st1⟩); have H1 := Lib.hid h1; have ST1 := Lib.hid st1; clear o1 h1 st1)
      | fail "no arm")
    go_ret2
    rw [HXX.out]
    exact ⟨none, 0, 0, rfl, ⟨rfl, Row.nil _ _ _⟩, H1.out, ST1.out⟩
/-- What the document's Put leaves. -/
def RPutPost (w : World) (base g : Nat) (p : DiskP) (q : RDiskP) (f m : Nat) (kind : Int) (ts : List Int) (E : DiskV) (R : DiskV × Nat × Int × Int) (e : Ending) (w' : World) : Prop :=
  e = .returned (.tuple #[.int .i64 R.2.2.1, .int .i64 R.2.2.2]) ∧ RDiskS w' base q R.1 ∧ DiskS w' base p E ∧ RRowsAt w' base g q f m kind R.2.1 ts ∧ Below base w w' ∧
    (∀ (g' : Nat) (t : TypeId) (cs : List Value), t ∉ [119, 169, 22, 4, 3, 53] → Blk w g' t cs → Blk w' g' t cs) ∧
    (∀ (g' : Nat) (cs : List Value), g' ≠ q.go → Blk w g' 3 cs → Blk w' g' 3 cs)
set_option maxRecDepth 100000 in
set_option maxHeartbeats 8000000 in
theorem rrput_any (h : RRowsAt w base g q f m kind next ts) (hd : RDiskS w base q D) (hp : DiskS w base p E) (n1 : q.gi ≠ p.gi) (n2 : q.gi ≠ p.gm) (hs : base ≤ w.heap.size) (hfm : f + m ≤ D.many) (hm : m ≤ 4096) (hnm : next ≤ m) (hw : D.waits.length < 900000) (B : Option Addr) (k d : Nat) (hl : RI w B k l) (hk : k ≤ maxLen) (hil : IntOk l) :
    Calls Tryz.prog 115 #[.pointer (some ⟨g, 0, none⟩), .slice B k d] w (RPutPost w base g p q f m kind ts E (fPutV D f m kind next ts l)) := by
  have HH := Lib.hid h
  obtain ⟨gj, A, na, c, hb, hg, hj, hi, hna, hlow⟩ := h
  have c0 : w.cell? ⟨g, 0, none⟩ = some (.pointer (some ⟨gj, 0, none⟩)) := hb.cell 0
  have c1 : w.cell? ⟨g, 1, none⟩ = some (.slice A na c) := hb.cell 1
  have hput : fPutV D f m kind next ts l = if fitsB ts l = false then (D, next, 0, 41) else jAddV D f m kind next (rowB ts l ts.length) := rfl
  have hft := reffits_any A B na k c d ts l w hi hl hna hk
  have HD := Lib.hid hd
  have HP := Lib.hid hp
  cases hf : fitsB ts l with
  | false =>
    rw [if_pos hf] at hput
    rw [hput]
    rw [hf] at hft
    clear hb hi hd hj hput hlow hp hl hil
    go_enter Tryz.func115, Tryz.ntmps115
    go_wp2_with (first
      | (go_at_call 114; (with_reducible refine (hft).mono ?_); rintro e w1 ⟨rfl, rfl⟩)
      | fail "no arm")
    go_ret2
    exact ⟨rfl, HD.out, HP.out, HH.out, Below.refl _ _, fun _ _ _ _ h => h, fun _ _ _ h => h⟩
  | true =>
    rw [if_neg (by rw [hf]; simp)] at hput
    rw [hput]
    rw [hf] at hft
    have bD : Below w.heap.size w w.drew := Below.drew (Below.refl _ _)
    have hby := refbytes_row A B na k c d ts l w.drew (hi.below bD (Nat.le_refl _)) (hl.below bD (Nat.le_refl _)) hna hk hf hil
    have hadd := fun (W : World) (C : Option Addr) (N e : Nat) (a1 : RJrnAt W gj q f m kind next) (a2 : RDiskS W base q D) (a3 : DiskS W base p E) (a4 : base ≤ W.heap.size) (a5 : RB W C N (rowB ts l ts.length)) (a6 : N ≤ maxLen) => rjaddB_any a1 a2 a3 n1 n2 a4 hg hfm hm hnm (by omega) C N e _ a5 a6
    generalize jAddV D f m kind next (rowB ts l ts.length) = R at *
    have HB := Lib.hid (Blk.drew hb)
    have HJ := Lib.hid (show RJrnAt w.drew gj q f m kind next from Blk.drew hj)
    have HDD := Lib.hid (hd.below bD)
    have HPD := Lib.hid (hp.below bD)
    have HIL := Lib.hid (fun (W : World) (k : Below base w W) => hi.low hlow k)
    have BD := Lib.hid bD
    clear hb hi hd hj hput hp hl hil bD HD HP HH hf
    go_enter Tryz.func115, Tryz.ntmps115
    go_wp2_with (first
      | (go_at_call 114; (with_reducible refine (hft).mono ?_); rintro e w1 ⟨rfl, rfl⟩)
      | fail "no arm")
    go_region_held3 (fun w' => w'.cell? ⟨g, 0, none⟩ = some (.pointer (some ⟨gj, 0, none⟩)) ∧ w'.cell? ⟨g, 1, none⟩ = some (.slice A na c)) (first | go_keep | (refine ⟨?_, ?_⟩ <;> assumption)) (first
      | ((go_at_call 174; (with_reducible refine (hby).mono ?_); rintro e w1 ⟨A1, N1, d1, rfl, o1, b1⟩); have D1 := Lib.hid (HDD.out.below b1); have P1 := Lib.hid (HPD.out.below b1); have J1 := Lib.hid (show RJrnAt w1 gj q f m kind next from Blk.below HJ.out b1 (Blk.lt HJ.out)); have B1 := Lib.hid (Blk.below HB.out b1 (Blk.lt HB.out)); have O1 := Lib.hid o1; have cp1 := o1.cap; have s1 : w.heap.size ≤ w1.heap.size := b1.size; have y0 : w1.cell? ⟨g, 0, none⟩ = some (.pointer (some ⟨gj, 0, none⟩)) := B1.out.cell 0; have y1 : w1.cell? ⟨g, 1, none⟩ = some (.slice A na c) := B1.out.cell 1; have BB1 := Lib.hid (show Below w.heap.size w w1 from BD.out.trans b1); clear o1 b1)
      | ((go_at_call 173; (with_reducible refine (hadd _ _ _ _ J1.out D1.out P1.out (by omega) O1.out.rd.rb (by omega)).mono ?_); rintro e w2 ⟨rfl, r2, p2, j2, bel2, oth2, int2⟩); have y20 : w2.cell? ⟨g, 0, none⟩ = some (.pointer (some ⟨gj, 0, none⟩)) := (oth2 _ _ _ (Blk.ne_ B1.out J1.out (by decide)) (by decide) B1.out).cell 0; have y21 : w2.cell? ⟨g, 1, none⟩ = some (.slice A na c) := (oth2 _ _ _ (Blk.ne_ B1.out J1.out (by decide)) (by decide) B1.out).cell 1)
      | fail "no arm")
    go_wp2
    go_ret2
    have bel := (BB1.out.mono hs).trans bel2
    exact ⟨rfl, r2, p2, ⟨gj, A, na, c, oth2 _ _ _ (Blk.ne_ B1.out J1.out (by decide)) (by decide) B1.out, hg, j2, HIL.out _ bel, hna, hlow⟩, bel,
      fun g' t cs ht hb => oth2 g' t cs (Blk.ne_ (Blk.below hb BB1.out (Blk.lt hb)) J1.out (fun e => ht (by rw [e]; simp))) (fun e => ht (by simp only [List.mem_cons, List.not_mem_nil, or_false] at e ⊢; rcases e with e | e | e | e | e <;> simp [e])) (Blk.below hb BB1.out (Blk.lt hb)),
      fun g' cs hne hb => int2 g' cs hne (Blk.below hb BB1.out (Blk.lt hb))⟩
/-- What the document's Put of a sink leaves. -/
def RSPutPost (w : World) (base g : Nat) (p : DiskP) (q : RDiskP) (f m : Nat) (kind : Int) (ts : List Int) (E : DiskV) (R : DiskV × Nat × Bool × Int) (e : Ending) (w' : World) : Prop :=
  e = .returned (.tuple #[.bool R.2.2.1, .int .i64 R.2.2.2]) ∧ RDiskS w' base q R.1 ∧ DiskS w' base p E ∧ RRowsAt w' base g q f m kind R.2.1 ts ∧ Below base w w' ∧
    (∀ (g' : Nat) (t : TypeId) (cs : List Value), t ∉ [119, 169, 22, 4, 3, 53] → Blk w g' t cs → Blk w' g' t cs) ∧
    (∀ (g' : Nat) (cs : List Value), g' ≠ q.go → Blk w g' 3 cs → Blk w' g' 3 cs)
set_option maxRecDepth 100000 in
set_option maxHeartbeats 8000000 in
theorem rsput_any (h : RRowsAt w base g q f m kind next ts) (hd : RDiskS w base q D) (hp : DiskS w base p E) (n1 : q.gi ≠ p.gi) (n2 : q.gi ≠ p.gm) (hs : base ≤ w.heap.size) (hfm : f + m ≤ D.many) (hm : m ≤ 4096) (hnm : next ≤ m) (hw : D.waits.length < 900000) (nn : Int) (B : Option Addr) (k d : Nat) (hl : RI w B k l) (hk : k ≤ maxLen) (hil : IntOk l) :
    Calls Tryz.prog 56 #[.pointer (some ⟨g, 0, none⟩), .int .i64 nn, .slice B k d] w (RSPutPost w base g p q f m kind ts E (sPutV D f m kind next ts nn l)) := by
  have HH := Lib.hid h
  have hputc := rrput_any h hd hp n1 n2 hs hfm hm hnm hw B k d hl hk hil
  obtain ⟨gj, A, na, c, hb, hg, hj, hi, hna, hlow⟩ := h
  have c0 : w.cell? ⟨g, 0, none⟩ = some (.pointer (some ⟨gj, 0, none⟩)) := hb.cell 0
  have c1 : w.cell? ⟨g, 1, none⟩ = some (.slice A na c) := hb.cell 1
  have c4 : w.cell? ⟨gj, 4, none⟩ = some (.int .i64 (next : Int)) := Blk.cell hj 4
  have hft := reffits_any A B na k c d ts l w hi hl hna hk
  have hfp : fPutV D f m kind next ts l = if fitsB ts l = false then (D, next, 0, 41) else jAddV D f m kind next (rowB ts l ts.length) := rfl
  have hput : sPutV D f m kind next ts nn l = if nn < 0 ∨ (next : Int) < nn then (D, next, false, 2)
    else if fitsB ts l = false then (D, next, false, 41)
    else if nn < (next : Int) then (D, next, false, 0)
    else if (jAddV D f m kind next (rowB ts l ts.length)).2.2.2 ≠ 0 then ((jAddV D f m kind next (rowB ts l ts.length)).1, (jAddV D f m kind next (rowB ts l ts.length)).2.1, false, (jAddV D f m kind next (rowB ts l ts.length)).2.2.2)
    else ((jAddV D f m kind next (rowB ts l ts.length)).1, (jAddV D f m kind next (rowB ts l ts.length)).2.1, true, 0) := rfl
  have HD := Lib.hid hd
  have HP := Lib.hid hp
  generalize sPutV D f m kind next ts nn l = S at *
  have same : ∀ b z, S = (D, next, b, z) → RSPutPost w base g p q f m kind ts E S (.returned (.tuple #[.bool b, .int .i64 z])) w := fun b z e => by
    subst e
    exact ⟨rfl, HD.out, HP.out, HH.out, Below.refl _ _, fun _ _ _ _ h => h, fun _ _ _ h => h⟩
  have SAME := Lib.hid same
  clear same hb hj hi hl hd hp hlow
  by_cases h0 : nn < 0
  · have e9 := Lib.hid (show S = (D, next, false, 2) from by rw [hput, if_pos (.inl h0)])
    clear hput hfp hputc hft
    go_enter Tryz.func56, Tryz.ntmps56
    go_wp2
    go_ret2
    exact SAME.out _ _ e9.out
  by_cases h1 : (next : Int) < nn
  · have e9 := Lib.hid (show S = (D, next, false, 2) from by rw [hput, if_pos (.inr h1)])
    clear hput hfp hputc hft
    go_enter Tryz.func56, Tryz.ntmps56
    go_wp2
    go_ret2
    exact SAME.out _ _ e9.out
  rw [if_neg (by omega)] at hput
  cases hf : fitsB ts l with
  | false =>
    have e9 := Lib.hid (show S = (D, next, false, 41) from by rw [hput, if_pos hf])
    rw [hf] at hft
    clear hput hfp hputc hf
    go_enter Tryz.func56, Tryz.ntmps56
    go_wp2_with (first
      | (go_at_call 114; (with_reducible refine (hft).mono ?_); rintro e w1 ⟨rfl, rfl⟩)
      | fail "no arm")
    go_ret2
    exact SAME.out _ _ e9.out
  | true =>
    rw [hf] at hft
    rw [if_neg (by rw [hf]; simp)] at hput hfp
    by_cases h2 : nn < (next : Int)
    · have e9 := Lib.hid (show S = (D, next, false, 0) from by rw [hput, if_pos h2])
      clear hput hfp hputc hf
      go_enter Tryz.func56, Tryz.ntmps56
      go_wp2_with (first
        | (go_at_call 114; (with_reducible refine (hft).mono ?_); rintro e w1 ⟨rfl, rfl⟩)
        | fail "no arm")
      go_ret2
      exact SAME.out _ _ e9.out
    · rw [if_neg h2] at hput
      rw [hfp] at hputc
      generalize jAddV D f m kind next (rowB ts l ts.length) = R at *
      obtain ⟨D1, nx1, v1, z1⟩ := R
      simp only at hput
      clear hfp hf
      by_cases hz : z1 = 0
      · subst hz
        rw [if_neg (by simp)] at hput
        subst hput
        go_enter Tryz.func56, Tryz.ntmps56
        go_wp2_with (first
          | (go_at_call 114; (with_reducible refine (hft).mono ?_); rintro e w1 ⟨rfl, rfl⟩)
          | ((go_at_call 115; (with_reducible refine (hputc).mono ?_); rintro e w2 ⟨rfl, r2⟩))
          | fail "no arm")
        go_ret2
        exact ⟨rfl, r2⟩
      · have hzb : (z1 == 0) = false := by rw [beq_eq_false_iff_ne]; exact hz
        rw [if_pos hz] at hput
        subst hput
        clear hz
        go_enter Tryz.func56, Tryz.ntmps56
        go_wp2_with (first
          | (go_at_call 114; (with_reducible refine (hft).mono ?_); rintro e w1 ⟨rfl, rfl⟩)
          | ((go_at_call 115; (with_reducible refine (hputc).mono ?_); rintro e w2 ⟨rfl, r2⟩))
          | fail "no arm")
        go_ret2
        exact ⟨by first | rfl | (rw [hzb]), r2⟩
/-- What the document's Open leaves. -/
def RFOpPost (w : World) (base : Nat) (q : RDiskP) (f m : Nat) (kind : Int) (ts : List Int) (R : DiskV × Nat × Int) (e : Ending) (w' : World) : Prop :=
  ∃ P, e = .returned (.tuple #[.pointer P, .int .i64 R.2.2]) ∧ (R.2.2 ≠ 0 → P = none) ∧ (R.2.2 = 0 → ∃ g, P = some ⟨g, 0, none⟩ ∧ w.heap.size ≤ g ∧ RRowsAt w' base g q f m kind R.2.1 ts) ∧ RDiskS w' base q R.1 ∧ RStep base q w w'
theorem RFOpPost.no {z : Int} (hz : z ≠ 0) (hd : RDiskS w' base q D) (hs : RStep base q w w') : RFOpPost w base q f m kind ts (D, 0, z) (.returned (.tuple #[.pointer none, .int .i64 z])) w' :=
  ⟨none, rfl, fun _ => rfl, fun e => absurd e hz, hd, hs⟩
set_option maxRecDepth 100000 in
set_option maxHeartbeats 8000000 in
theorem rfopen_any (hd : RDiskS w base q D) (hs : base ≤ w.heap.size) (hm : 1 ≤ m) (hfm : f + m ≤ D.many) (hok : D.many ≤ 4096) (hwt : D.waits.length < 900000) (A : Option Addr) (n c : Nat) (ht : RI w A n ts) (hn : n ≤ maxLen) (hlow : 0 < n → ∀ b, A.map (·.block) = some b → b < base) (hr : rightB ts = true) :
    Calls Tryz.prog 55 #[.agg #[.pointer (some ⟨q.d, 0, none⟩), .int .i64 (f : Nat), .int .i64 (m : Nat)], .int .i64 kind, .slice A n c] w (RFOpPost w base q f m kind ts (fOpenV D f m kind ts)) := by
  have hun : fOpenV D f m kind ts = if rightB ts = false then (D, 0, 2)
    else if (jOpenV D f m kind).2.2 ≠ 0 then ((jOpenV D f m kind).1, 0, (jOpenV D f m kind).2.2)
    else if (fAllK (jOpenV D f m kind).1 f m kind (jOpenV D f m kind).2.1 ts (jOpenV D f m kind).2.1).2 ≠ 0 then ((fAllK (jOpenV D f m kind).1 f m kind (jOpenV D f m kind).2.1 ts (jOpenV D f m kind).2.1).1, 0, (fAllK (jOpenV D f m kind).1 f m kind (jOpenV D f m kind).2.1 ts (jOpenV D f m kind).2.1).2)
    else ((fAllK (jOpenV D f m kind).1 f m kind (jOpenV D f m kind).2.1 ts (jOpenV D f m kind).2.1).1, (jOpenV D f m kind).2.1, 0) := rfl
  rw [if_neg (by rw [hr]; simp)] at hun
  obtain ⟨few1, few2, few3⟩ := jOpenV_few D f m kind
  have bA : Below w.heap.size w (w.alloc (.cells #[.pointer (some ⟨q.d, 0, none⟩), .int .i64 (f : Nat), .int .i64 (m : Nat)] 51)) := (Below.refl _ _).alloc (Nat.le_refl _) _
  have hop := ropen_any (f := f) (m := m) (kind := kind) (hd.below bA) (by have := bA.size; omega) hm hfm hwt
  have HI := Lib.hid (fun (W : World) (k : Below base w W) => ht.low hlow k)
  have HLOW := Lib.hid hlow
  have KA := Lib.hid (RStep.of_below (q := q) bA hs)
  have sA := bA.size
  generalize fOpenV D f m kind ts = R at *
  generalize jOpenV D f m kind = J at *
  obtain ⟨D1, nx, z⟩ := J
  simp only at hun hop few1 few3
  clear hd ht hlow bA
  by_cases hz : z = 0
  · subst hz
    rw [if_neg (by simp)] at hun
    have HUN := Lib.hid hun
    clear hun
    go_enter Tryz.func55, Tryz.ntmps55
    go_upto_region 5 with (first
      | ((go_at_call 113; (with_reducible refine (hop).mono ?_); rintro e w2 ⟨P2, rfl, n2, y2, h2, st2⟩); obtain ⟨gj, rfl, g2, j2⟩ := y2 rfl; have J2 := Lib.hid j2; have H2 := Lib.hid h2; have ST2 := Lib.hid (KA.out.trans st2); have s2 := st2.size; clear n2 y2 j2 h2 st2)
      | fail "no arm")
    have bX : Below w2.heap.size w2 (w2.alloc (.cells #[.pointer (some ⟨gj, 0, none⟩), .slice A n c] 56)) := (Below.refl _ _).alloc (Nat.le_refl _) _
    have ST3 := Lib.hid (ST2.out.then_below (bX.mono (by omega)) hs)
    have R3 := Lib.hid (show RRowsAt (w2.alloc (.cells #[.pointer (some ⟨gj, 0, none⟩), .slice A n c] 56)) base w2.heap.size q f m kind nx ts from ⟨gj, A, n, c, Blk.top _ rfl rfl, by omega, Blk.below J2.out bX (Blk.lt J2.out), HI.out _ ST3.out.bel, hn, HLOW.out⟩)
    have H3 := Lib.hid (H2.out.below bX)
    have J3 := Lib.hid (show RJrnAt (w2.alloc (.cells #[.pointer (some ⟨gj, 0, none⟩), .slice A n c] 56)) gj q f m kind nx from Blk.below J2.out bX (Blk.lt J2.out))
    have s3 := ST3.out.size
    generalize hW : w2.alloc (.cells #[.pointer (some ⟨gj, 0, none⟩), .slice A n c] 56) = w3 at *
    generalize hG : w2.heap.size = gr at *
    clear hW bX ST2 J2 H2
    have hnx : nx ≤ 4096 := by omega
    go_wp2_with fail
    go_loopw [11, 12, 13] (fun i _ _ wr => ∃ (k : Nat) (Dk : DiskV), k ≤ nx ∧ i = .int .i64 (k : Nat) ∧ fAllK D1 f m kind nx ts k = (Dk, 0) ∧ RDiskS wr base q Dk ∧ RStep base q w3 wr) (fun i _ _ _ => nx - (intOf i).toNat)
    case atStart => exact ⟨0, D1, by omega, rfl, rfl, H3.out, RStep.refl _ _ _⟩
    case round =>
      obtain ⟨k, Dk, hk, rfl, hall, hdk, hst⟩ := hrel
      have hsz := hst.size
      have hrr := R3.out.rstep H3.out hst
      have y4 : wr.cell? ⟨gj, 4, none⟩ = some (.int .i64 (nx : Int)) := Blk.cell (H3.out.blk J3.out hst (by decide)) 4
      by_cases hlt : k < nx
      · have hmk : Dk.many = D.many := by have := fAllK_many D1 f m kind nx ts k; rw [hall] at this; exact this.trans few1
        have hget := rrget_any hrr hdk (by omega) (by rw [hmk]; exact hfm) hnx (k : Int)
        have hnext := fAllK_next hall
        generalize fGetV Dk f m kind nx ts (k : Int) = G at *
        obtain ⟨Dn, ln, zn⟩ := G
        simp only at hget hnext
        have HST := Lib.hid hst
        clear hdk hrr hall
        by_cases he : zn = 0
        · subst he
          have HN := Lib.hid hnext
          clear hnext
          go_wp2_with (first
            | ((go_at_call 57; (with_reducible refine (hget).mono ?_); rintro e w8 ⟨L8, k8, d8, rfl, o8, h8, st8⟩))
            | fail "no arm")
          go_roundw
          case rel => first
            | exact ⟨k + 1, Dn, by omega, by go_num, HN.out, h8, HST.out.trans st8⟩
            | ((repeat apply Exists.intro); exact ⟨⟨k + 1, Dn, by omega, by go_num, HN.out, h8, HST.out.trans st8⟩, rfl⟩)
          case measure => simp [intOf]; omega
        · have hneb : (zn != 0) = true := by rw [bne_iff_ne]; exact he
          have hstop := fAllK_stop (D := D1) (f := f) (m := m) (kind := kind) (next := nx) (ts := ts) (k := k + 1) (n := nx) (by rw [hnext]; exact he) (by omega)
          have hR : R = (Dn, 0, zn) := by rw [HUN.out, hstop, hnext, if_pos he]
          subst hR
          have HE := Lib.hid he
          clear HUN hstop hnext he
          go_wp2_with (first
            | ((go_at_call 57; (with_reducible refine (hget).mono ?_); rintro e w8 ⟨L8, k8, d8, rfl, o8, h8, st8⟩))
            | fail "no arm")
          go_ret2
          exact RFOpPost.no HE.out h8 ((ST3.out.trans HST.out).trans st8)
      · have hk9 : k = nx := by omega
        subst hk9
        have hR : R = (Dk, k, 0) := by rw [HUN.out, hall, if_neg (by simp)]
        subst hR
        have HDk := Lib.hid hdk
        have HST := Lib.hid hst
        have HRR := Lib.hid hrr
        clear hdk hst hrr hall HUN
        go_wp2
        go_ret2
        exact ⟨_, rfl, fun e => absurd rfl e, fun _ => ⟨gr, rfl, by omega, HRR.out⟩, HDk.out, ST3.out.trans HST.out⟩
  · have hzb : (z != 0) = true := by rw [bne_iff_ne]; exact hz
    rw [if_pos hz] at hun
    subst hun
    have HZ := Lib.hid hz
    clear hz
    go_enter Tryz.func55, Tryz.ntmps55
    go_wp2_with (first
      | ((go_at_call 113; (with_reducible refine (hop).mono ?_); rintro e w2 ⟨P2, rfl, n2, y2, h2, st2⟩); obtain rfl := n2 HZ.out)
      | fail "no arm")
    go_ret2
    exact RFOpPost.no HZ.out h2 (KA.out.trans st2)
end
end Go.Proofs.YtalmdccgpigppaaGreat
