/- The document's journal: Get, Add. -/
import Derived.Test.YtninidpbchcliaaRAreaA
import Derived.Test.YtninidpbchcliaaJrnA
import Derived.Deep.RegionHeld3
namespace Go.Proofs.Ytninidpbchcliaa
open Go.RowKit
set_option linter.unusedVariables false
set_option linter.unusedSimpArgs false
def RJrnAt (w : World) (g : Nat) (q : RDiskP) (f m : Nat) (kind : Int) (next : Nat) : Prop := Blk w g 109 [.pointer (some ⟨q.d, 0, none⟩), .int .i64 (f : Nat), .int .i64 (m : Nat), .int .i64 kind, .int .i64 (next : Int)]
section
variable {w w' : World} {base g f m next : Nat} {kind : Int} {q : RDiskP} {D : DiskV}
theorem RDiskS.drew (h : RDiskS w base q D) : RDiskS w.drew base q D := h.below (Below.drew (Below.refl _ _))
theorem RStep.of_drew (h : RStep base q w.drew w') : RStep base q w w' := by
  obtain ⟨hb, F, hF, tF⟩ := h
  exact ⟨(Below.drew (Below.refl _ _)).trans hb, F, Keep.of_drew hF, tF⟩
/-- A row of rows that is not the disk's own. -/
theorem RDiskS.rows (h : RDiskS w base q D) {g : Nat} {cs : List Value} (hb : Blk w g 23 cs) (k : RStep base q w w') (hg : q.gk ≠ g) : Blk w' g 23 cs := by
  obtain ⟨F, hF, tF⟩ := k.tch
  obtain ⟨_, _, ⟨c2, b2⟩, ⟨c3, b3⟩⟩ := h.kinds
  refine hb.keep hF (fun e => ?_)
  rcases tF g _ cs e hb with q1 | q1 | q1 | q1 | q1
  · exact absurd q1 (by decide)
  · exact absurd q1 (by decide)
  · exact hg q1.symm
  · exact hb.ne_ b2 (by decide) q1
  · exact hb.ne_ b3 (by decide) q1
set_option maxRecDepth 100000 in
set_option maxHeartbeats 4000000 in
theorem rjget_any (h : RJrnAt w g q f m kind next) (hd : RDiskS w base q D) (hs : base ≤ w.heap.size) (hfm : f + m ≤ D.many) (hnm : next ≤ 4096) (n : Int) :
    Calls Try.prog 96 #[.pointer (some ⟨g, 0, none⟩), .int .i64 n] w fun e w' => ∃ B k d, e = .returned (.tuple #[.slice B k d, .int .i64 (jGetV D f m kind next n).2.2]) ∧ RB w' B k (jGetV D f m kind next n).2.1 ∧ RDiskS w' base q (jGetV D f m kind next n).1 ∧ RStep base q w w' := by
  have c0 : w.cell? ⟨g, 0, none⟩ = some (.pointer (some ⟨q.d, 0, none⟩)) := Blk.cell h 0
  have c1 : w.cell? ⟨g, 1, none⟩ = some (.int .i64 (f : Nat)) := Blk.cell h 1
  have c2 : w.cell? ⟨g, 2, none⟩ = some (.int .i64 (m : Nat)) := Blk.cell h 2
  have c3 : w.cell? ⟨g, 3, none⟩ = some (.int .i64 kind) := Blk.cell h 3
  have c4 : w.cell? ⟨g, 4, none⟩ = some (.int .i64 (next : Int)) := Blk.cell h 4
  unfold jGetV
  by_cases hn : n < 0 ∨ (next : Int) ≤ n
  · rw [if_pos hn]
    have hc : n < 0 ∨ (0 ≤ n ∧ (next : Int) ≤ n) := by omega
    have HD := Lib.hid hd
    clear h hd hn
    rcases hc with h1 | ⟨h1, h2⟩
    all_goals
      go_enter Try.func96, Try.ntmps96
      go_wp2
      go_ret2
      exact ⟨none, 0, 0, rfl, ⟨rfl, Row.nil _ _ _⟩, HD.out, RStep.refl _ _ _⟩
  · rw [if_neg hn]
    have h1 : 0 ≤ n := by omega
    have h2 : n < next := by omega
    have htk := ra_take (w := w.drew) hd.drew hs hfm n kind
    have HJ := Lib.hid h
    have HD := Lib.hid hd
    clear h hd hn
    generalize aTakeV D f m n kind = T at *
    generalize (aReadV D f m n).1 = D' at *
    obtain ⟨N, L, er⟩ := T
    simp only at htk ⊢
    by_cases her : er = 0
    · subst her
      rw [if_neg (by simp)]
      by_cases hN : N = n
      · subst hN
        rw [if_neg (by simp)]
        have hne : (N != N) = false := by simp
        go_enter Try.func96, Try.ntmps96
        go_wp2_with fail
        go_region_held3 (fun w' => w'.cell? ⟨g, 0, none⟩ = some (.pointer (some ⟨q.d, 0, none⟩)) ∧ w'.cell? ⟨g, 1, none⟩ = some (.int .i64 (f : Nat)) ∧ w'.cell? ⟨g, 2, none⟩ = some (.int .i64 (m : Nat)) ∧ w'.cell? ⟨g, 3, none⟩ = some (.int .i64 kind)) (first | go_keep | (refine ⟨?_, ?_, ?_, ?_⟩ <;> assumption)) (first
          | ((go_at_call 90; (with_reducible refine (htk).mono ?_); rintro e w2 ⟨B, k, d, rfl, o2, h2, s2⟩); have hj2 := HD.out.drew.blk (Blk.drew HJ.out) s2 (by decide); have y0 : w2.cell? ⟨g, 0, none⟩ = some (.pointer (some ⟨q.d, 0, none⟩)) := hj2.cell 0; have y1 : w2.cell? ⟨g, 1, none⟩ = some (.int .i64 (f : Nat)) := hj2.cell 1; have y2 : w2.cell? ⟨g, 2, none⟩ = some (.int .i64 (m : Nat)) := hj2.cell 2; have y3 : w2.cell? ⟨g, 3, none⟩ = some (.int .i64 kind) := hj2.cell 3)
          | fail "no arm")
        go_wp2
        go_ret2
        exact ⟨B, k, d, rfl, o2, h2, s2.of_drew⟩
      · rw [if_pos hN]
        have hne : (N != n) = true := by rw [bne_iff_ne]; exact hN
        go_enter Try.func96, Try.ntmps96
        go_wp2_with fail
        go_region_held3 (fun w' => w'.cell? ⟨g, 0, none⟩ = some (.pointer (some ⟨q.d, 0, none⟩)) ∧ w'.cell? ⟨g, 1, none⟩ = some (.int .i64 (f : Nat)) ∧ w'.cell? ⟨g, 2, none⟩ = some (.int .i64 (m : Nat)) ∧ w'.cell? ⟨g, 3, none⟩ = some (.int .i64 kind)) (first | go_keep | (refine ⟨?_, ?_, ?_, ?_⟩ <;> assumption)) (first
          | ((go_at_call 90; (with_reducible refine (htk).mono ?_); rintro e w2 ⟨B, k, d, rfl, o2, h2, s2⟩); have hj2 := HD.out.drew.blk (Blk.drew HJ.out) s2 (by decide); have y0 : w2.cell? ⟨g, 0, none⟩ = some (.pointer (some ⟨q.d, 0, none⟩)) := hj2.cell 0; have y1 : w2.cell? ⟨g, 1, none⟩ = some (.int .i64 (f : Nat)) := hj2.cell 1; have y2 : w2.cell? ⟨g, 2, none⟩ = some (.int .i64 (m : Nat)) := hj2.cell 2; have y3 : w2.cell? ⟨g, 3, none⟩ = some (.int .i64 kind) := hj2.cell 3)
          | fail "no arm")
        go_wp2
        go_ret2
        exact ⟨none, 0, 0, rfl, ⟨rfl, Row.nil _ _ _⟩, h2, s2.of_drew⟩
    · rw [if_pos her]
      have hne : (er != 0) = true := by rw [bne_iff_ne]; exact her
      clear her
      go_enter Try.func96, Try.ntmps96
      go_wp2_with fail
      go_region_held3 (fun w' => w'.cell? ⟨g, 0, none⟩ = some (.pointer (some ⟨q.d, 0, none⟩)) ∧ w'.cell? ⟨g, 1, none⟩ = some (.int .i64 (f : Nat)) ∧ w'.cell? ⟨g, 2, none⟩ = some (.int .i64 (m : Nat)) ∧ w'.cell? ⟨g, 3, none⟩ = some (.int .i64 kind)) (first | go_keep | (refine ⟨?_, ?_, ?_, ?_⟩ <;> assumption)) (first
        | ((go_at_call 90; (with_reducible refine (htk).mono ?_); rintro e w2 ⟨B, k, d, rfl, o2, h2, s2⟩); have hj2 := HD.out.drew.blk (Blk.drew HJ.out) s2 (by decide); have y0 : w2.cell? ⟨g, 0, none⟩ = some (.pointer (some ⟨q.d, 0, none⟩)) := hj2.cell 0; have y1 : w2.cell? ⟨g, 1, none⟩ = some (.int .i64 (f : Nat)) := hj2.cell 1; have y2 : w2.cell? ⟨g, 2, none⟩ = some (.int .i64 (m : Nat)) := hj2.cell 2; have y3 : w2.cell? ⟨g, 3, none⟩ = some (.int .i64 kind) := hj2.cell 3)
        | fail "no arm")
      go_wp2
      go_ret2
      exact ⟨none, 0, 0, rfl, ⟨rfl, Row.nil _ _ _⟩, h2, s2.of_drew⟩
/-- What the document's Add leaves. -/
def RAddPost (w : World) (base g : Nat) (p : DiskP) (q : RDiskP) (f m : Nat) (kind : Int) (E : DiskV) (R : DiskV × Nat × Int × Int) (e : Ending) (w' : World) : Prop :=
  e = .returned (.tuple #[.int .i64 R.2.2.1, .int .i64 R.2.2.2]) ∧ RDiskS w' base q R.1 ∧ DiskS w' base p E ∧ RJrnAt w' g q f m kind R.2.1 ∧ Below base w w' ∧
    (∀ (g' : Nat) (t : TypeId) (cs : List Value), g' ≠ g → t ∉ [65, 185, 23, 4, 3] → Blk w g' t cs → Blk w' g' t cs)
set_option maxRecDepth 100000 in
set_option maxHeartbeats 4000000 in
theorem rjadd_any {p : DiskP} {E : DiskV} (h : RJrnAt w g q f m kind next) (hd : RDiskS w base q D) (hp : DiskS w base p E) (n1 : q.gi ≠ p.gi) (n2 : q.gi ≠ p.gm) (hs : base ≤ w.heap.size) (hg : base ≤ g) (hfm : f + m ≤ D.many) (hm : m ≤ 4096) (hnm : next ≤ m) (hw : D.waits.length < 1000000) (B : Option Addr) (k d : Nat) (l : List UInt8) (hl : RB w B k l) (hk : k ≤ maxLen) :
    Calls Try.prog 95 #[.pointer (some ⟨g, 0, none⟩), .slice B k d] w (RAddPost w base g p q f m kind E (jAddV D f m kind next l)) := by
  have c0 : w.cell? ⟨g, 0, none⟩ = some (.pointer (some ⟨q.d, 0, none⟩)) := Blk.cell h 0
  have c1 : w.cell? ⟨g, 1, none⟩ = some (.int .i64 (f : Nat)) := Blk.cell h 1
  have c2 : w.cell? ⟨g, 2, none⟩ = some (.int .i64 (m : Nat)) := Blk.cell h 2
  have c3 : w.cell? ⟨g, 3, none⟩ = some (.int .i64 kind) := Blk.cell h 3
  have c4 : w.cell? ⟨g, 4, none⟩ = some (.int .i64 (next : Int)) := Blk.cell h 4
  have hlen := hl.1
  have HD := Lib.hid hd
  have HP := Lib.hid hp
  have HJ := Lib.hid h
  unfold jAddV
  unfold maxLen at hk
  by_cases h1 : 113 < l.length
  · rw [if_pos h1]
    rw [hlen] at h1
    clear h hd hl hp
    go_enter Try.func95, Try.ntmps95
    go_wp2
    go_ret2
    exact ⟨rfl, HD.out, HP.out, HJ.out, Below.refl _ _, fun _ _ _ _ _ h => h⟩
  · rw [if_neg h1]
    rw [hlen] at h1
    by_cases h2 : m = next
    · rw [if_pos h2]
      subst h2
      clear h hd hl hp
      go_enter Try.func95, Try.ntmps95
      go_wp2_with fail
      go_quiet (fail)
      go_wp2
      go_ret2
      have hb : Below w.heap.size w (w.drewN nq) := below_drewN (Below.refl _ _) nq
      exact ⟨rfl, HD.out.below hb, HP.out.below hb, Blk.drewN HJ.out nq, hb.mono hs, fun _ _ _ _ _ h => Blk.drewN h nq⟩
    · rw [if_neg h2]
      have h3 : (next : Int) < m := by omega
      have hput := fun q9 => ra_put (w := w.drewN q9) (d := d) (hd.below (below_drewN (Below.refl _ _) q9)) hs hfm next kind next B k l (hl.below (below_drewN (Below.refl _ _) q9) (Nat.le_refl _)) (by unfold maxLen; omega) (by omega) hw
      generalize aPutV D f m next kind next l = P at *
      obtain ⟨D', z⟩ := P
      simp only at hput ⊢
      by_cases hzz : z = 0
      · subst hzz
        rw [if_neg (by simp)]
        clear h hd hl h2 hp
        go_enter Try.func95, Try.ntmps95
        go_wp2_with fail
        go_quiet (fail)
        go_wp2_with fail
        go_region_held3 (fun w' => w'.cell? ⟨g, 0, none⟩ = some (.pointer (some ⟨q.d, 0, none⟩)) ∧ w'.cell? ⟨g, 1, none⟩ = some (.int .i64 (f : Nat)) ∧ w'.cell? ⟨g, 2, none⟩ = some (.int .i64 (m : Nat)) ∧ w'.cell? ⟨g, 3, none⟩ = some (.int .i64 kind) ∧ w'.cell? ⟨g, 4, none⟩ = some (.int .i64 (next : Int))) (first | go_keep | (refine ⟨?_, ?_, ?_, ?_, ?_⟩ <;> assumption)) (first
          | ((go_at_call 89; (with_reducible refine (hput (nq + 1)).mono ?_); rintro e w3 ⟨rfl, r3, k3⟩); have hj3 := (HD.out.below (below_drewN (Below.refl _ _) (nq + 1))).blk (Blk.drewN HJ.out (nq + 1)) k3 (by decide); have y0 : w3.cell? ⟨g, 0, none⟩ = some (.pointer (some ⟨q.d, 0, none⟩)) := hj3.cell 0; have y1 : w3.cell? ⟨g, 1, none⟩ = some (.int .i64 (f : Nat)) := hj3.cell 1; have y2 : w3.cell? ⟨g, 2, none⟩ = some (.int .i64 (m : Nat)) := hj3.cell 2; have y3 : w3.cell? ⟨g, 3, none⟩ = some (.int .i64 kind) := hj3.cell 3; have y4 : w3.cell? ⟨g, 4, none⟩ = some (.int .i64 (next : Int)) := hj3.cell 4; have f4 := hj3.frozen 4; have p3 := (HP.out.below (below_drewN (Below.refl _ _) (nq + 1))).rstep (HD.out.below (below_drewN (Below.refl _ _) (nq + 1))) k3 n1 n2; have S3 : Below base w w3 := ((below_drewN (Below.refl _ _) (nq + 1)).mono hs).trans k3.bel; have o3 : (∀ (g' : Nat) (t : TypeId) (cs : List Value), t ∉ [65, 185, 23, 4, 3] → Blk w g' t cs → Blk w3 g' t cs) := fun g' t cs ht hb => (HD.out.below (below_drewN (Below.refl _ _) (nq + 1))).blk (Blk.drewN hb (nq + 1)) k3 ht)
          | fail "no arm")
        go_wp2
        go_ret2
        have hset : RJrnAt (w3.setCell ⟨g, 4, none⟩ (.int .i64 ((next : Int) + 1))) g q f m kind (next + 1) := Blk.set_ hj3 4 _
        have st : Step [109] base p w3 (w3.setCell ⟨g, 4, none⟩ (.int .i64 ((next : Int) + 1))) := Step.one (grown_setCell _) hj3 (by decide) hg (by have := S3.size; omega)
        obtain ⟨A9, c9, h9⟩ := p3
        have hnf : ¬ foot p A9 g := fun e => by rcases h9.foot_ty hj3 e with q | q | q | q | q <;> exact absurd q (by decide)
        refine ⟨by first | rfl | (show _ = _; congr 4; go_arith), r3.step ⟨A9, c9, h9⟩ st n1 n2 (by decide) (by decide), ⟨A9, c9, h9.keep (F := (· = g)) (Keep.one (grown_setCell _)) (fun g9 hg9 e => hnf (e ▸ hg9))⟩, hset, S3.trans st.bel, fun g' t cs hne ht hb => Blk.far (o3 g' t cs ht hb) hne _⟩
      · rw [if_pos hzz]
        have hne : (z != 0) = true := by rw [bne_iff_ne]; exact hzz
        clear h hd hl h2 hp hzz
        go_enter Try.func95, Try.ntmps95
        go_wp2_with fail
        go_quiet (fail)
        go_wp2_with fail
        go_region_held3 (fun w' => w'.cell? ⟨g, 0, none⟩ = some (.pointer (some ⟨q.d, 0, none⟩)) ∧ w'.cell? ⟨g, 1, none⟩ = some (.int .i64 (f : Nat)) ∧ w'.cell? ⟨g, 2, none⟩ = some (.int .i64 (m : Nat)) ∧ w'.cell? ⟨g, 3, none⟩ = some (.int .i64 kind) ∧ w'.cell? ⟨g, 4, none⟩ = some (.int .i64 (next : Int))) (first | go_keep | (refine ⟨?_, ?_, ?_, ?_, ?_⟩ <;> assumption)) (first
          | ((go_at_call 89; (with_reducible refine (hput (nq + 1)).mono ?_); rintro e w3 ⟨rfl, r3, k3⟩); have hj3 := (HD.out.below (below_drewN (Below.refl _ _) (nq + 1))).blk (Blk.drewN HJ.out (nq + 1)) k3 (by decide); have y0 : w3.cell? ⟨g, 0, none⟩ = some (.pointer (some ⟨q.d, 0, none⟩)) := hj3.cell 0; have y1 : w3.cell? ⟨g, 1, none⟩ = some (.int .i64 (f : Nat)) := hj3.cell 1; have y2 : w3.cell? ⟨g, 2, none⟩ = some (.int .i64 (m : Nat)) := hj3.cell 2; have y3 : w3.cell? ⟨g, 3, none⟩ = some (.int .i64 kind) := hj3.cell 3; have y4 : w3.cell? ⟨g, 4, none⟩ = some (.int .i64 (next : Int)) := hj3.cell 4; have f4 := hj3.frozen 4; have p3 := (HP.out.below (below_drewN (Below.refl _ _) (nq + 1))).rstep (HD.out.below (below_drewN (Below.refl _ _) (nq + 1))) k3 n1 n2; have S3 : Below base w w3 := ((below_drewN (Below.refl _ _) (nq + 1)).mono hs).trans k3.bel; have o3 : (∀ (g' : Nat) (t : TypeId) (cs : List Value), t ∉ [65, 185, 23, 4, 3] → Blk w g' t cs → Blk w3 g' t cs) := fun g' t cs ht hb => (HD.out.below (below_drewN (Below.refl _ _) (nq + 1))).blk (Blk.drewN hb (nq + 1)) k3 ht)
          | fail "no arm")
        go_wp2
        go_ret2
        exact ⟨rfl, r3, p3, hj3, S3, fun g' t cs _ ht hb => o3 g' t cs ht hb⟩
end
end Go.Proofs.Ytninidpbchcliaa
