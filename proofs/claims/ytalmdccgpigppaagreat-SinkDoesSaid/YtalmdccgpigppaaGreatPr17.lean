/- Parts: JrnA. -/
import Derived.Test.YtalmdccgpigppaaGreatPr16
import Derived.Deep.RegionHeld3
namespace Go.Proofs.YtalmdccgpigppaaGreat
open Go.RowKit
set_option linter.unusedVariables false
set_option linter.unusedSimpArgs false
def mutJ : List TypeId := 200 :: mutD
def jrnC (ga : Nat) (kind : Int) (next : Nat) : List Value := [.pointer (some ⟨ga, 0, none⟩), .int .i64 kind, .int .i64 (next : Int)]
def JrnAt (w : World) (gj ga : Nat) (kind : Int) (next : Nat) : Prop := Blk w gj 200 (jrnC ga kind next)
def jGetV (D : DiskV) (f m : Nat) (kind : Int) (next : Nat) (n : Int) : DiskV × List UInt8 × Int :=
  if n < 0 ∨ (next : Int) ≤ n then (D, [], 54) else if (aTakeV D f m n kind).2.2 ≠ 0 then ((aReadV D f m n).1, [], (aTakeV D f m n kind).2.2)
  else if (aTakeV D f m n kind).1 ≠ n then ((aReadV D f m n).1, [], 53) else ((aReadV D f m n).1, (aTakeV D f m n kind).2.1, 0)
def jAddV (D : DiskV) (f m : Nat) (kind : Int) (next : Nat) (l : List UInt8) : DiskV × Nat × Int × Int :=
  if 113 < l.length then (D, next, 0, 3) else if m = next then (D, next, 0, 52)
  else if (aPutV D f m next kind next l).2 ≠ 0 then ((aPutV D f m next kind next l).1, next, 0, (aPutV D f m next kind next l).2)
  else ((aPutV D f m next kind next l).1, next + 1, (next : Int), 0)
section
variable {w w' : World} {base ga gj f m next : Nat} {kind : Int} {p : DiskP} {D : DiskV}
theorem DiskS.drew (h : DiskS w base p D) : DiskS w.drew base p D := by
  obtain ⟨A, c, h⟩ := h; exact ⟨A, c, h.drewN 1⟩
theorem Step.of_drew {M : List TypeId} (h : Step M base p w.drew w') : Step M base p w w' := by
  obtain ⟨hb, F, hF, tF⟩ := h
  exact ⟨(Below.drew (Below.refl _ _)).trans hb, F, Keep.of_drew hF, tF⟩
theorem jis_yes (h : JrnAt w gj ga kind next) : Calls Tryz.prog 103 #[.pointer (some ⟨gj, 0, none⟩)] w fun e w' => e = .returned (.bool true) ∧ w = w' := by
  have c0 : w.cell? ⟨gj, 0, none⟩ = some (.pointer (some ⟨ga, 0, none⟩)) := Blk.cell h 0
  clear h
  go_enter Tryz.func103, Tryz.ntmps103
  go_wp2
  go_ret
  exact ⟨rfl, rfl⟩
theorem jlen_any (h : JrnAt w gj ga kind next) : Calls Tryz.prog 44 #[.pointer (some ⟨gj, 0, none⟩)] w fun e w' => e = .returned (.int .i64 (next : Nat)) ∧ w = w' := by
  have c2 : w.cell? ⟨gj, 2, none⟩ = some (.int .i64 (next : Int)) := Blk.cell h 2
  have his := jis_yes h
  clear h
  go_enter Tryz.func44, Tryz.ntmps44
  go_wp2_with (first
    | (go_at_call 103; (with_reducible refine (his).mono ?_); rintro e w1 ⟨rfl, rfl⟩)
    | fail "no arm")
  go_ret
  exact ⟨rfl, rfl⟩
theorem jroom_any (h : JrnAt w gj ga kind next) (ha : AreaAt w ga p.d f m) (hm : m ≤ 4096) (hn : next ≤ m) : Calls Tryz.prog 106 #[.pointer (some ⟨gj, 0, none⟩)] w fun e w' => e = .returned (.int .i64 ((m : Int) - next)) ∧ ∃ q, w' = w.drewN q := by
  have c0 : w.cell? ⟨gj, 0, none⟩ = some (.pointer (some ⟨ga, 0, none⟩)) := Blk.cell h 0
  have c2 : w.cell? ⟨gj, 2, none⟩ = some (.int .i64 (next : Int)) := Blk.cell h 2
  have his := jis_yes h
  have hmany := many_any (w := w.drew) (ga := ga) (d := p.d) (f := f) (m := m) (Blk.drew ha)
  clear h ha
  go_enter Tryz.func106, Tryz.ntmps106
  go_wp2_with (first
    | (go_at_call 103; (with_reducible refine (his).mono ?_); rintro e w1 ⟨rfl, rfl⟩)
    | fail "no arm")
  go_region_held3 (fun w' => w'.cell? ⟨gj, 0, none⟩ = some (.pointer (some ⟨ga, 0, none⟩)) ∧ w'.cell? ⟨gj, 2, none⟩ = some (.int .i64 (next : Int))) (first | go_keep | (refine ⟨?_, ?_⟩ <;> assumption)) (first
    | (go_at_call 48; (with_reducible refine (hmany).mono ?_); rintro e w2 ⟨rfl, rfl⟩)
    | fail "no arm")
  go_wp2
  go_ret
  exact ⟨by first | rfl | exact ret_int (by first | omega | go_arith), 1, rfl⟩
theorem jflush_any (h : JrnAt w gj ga kind next) (hd : DiskS w base p D) (hs : base ≤ w.heap.size) (ha : AreaAt w ga p.d f m) : Calls Tryz.prog 47 #[.pointer (some ⟨gj, 0, none⟩)] w fun e w' => e = .returned (.int .i64 (flushV D).2) ∧ DiskS w' base p (flushV D).1 ∧ Step mutD base p w w' := by
  have c0 : w.cell? ⟨gj, 0, none⟩ = some (.pointer (some ⟨ga, 0, none⟩)) := Blk.cell h 0
  have his := jis_yes h
  have hfl := s_aflush hd hs ha
  generalize flushV D = R at *
  obtain ⟨D', z⟩ := R
  clear h ha hd
  go_enter Tryz.func47, Tryz.ntmps47
  go_wp2_with (first
    | (go_at_call 103; (with_reducible refine (his).mono ?_); rintro e w1 ⟨rfl, rfl⟩)
    | (go_at_call 108; (with_reducible refine (hfl).mono ?_); rintro e w2 ⟨rfl, h2, s2⟩)
    | fail "no arm")
  go_ret
  exact ⟨rfl, h2, s2⟩
set_option maxRecDepth 100000 in
set_option maxHeartbeats 4000000 in
theorem jget_any (h : JrnAt w gj ga kind next) (hd : DiskS w base p D) (hs : base ≤ w.heap.size) (ha : AreaAt w ga p.d f m) (hfm : f + m ≤ D.many) (hnm : next ≤ 4096) (n : Int) :
    Calls Tryz.prog 101 #[.pointer (some ⟨gj, 0, none⟩), .int .i64 n] w fun e w' => ∃ B k d, e = .returned (.tuple #[.slice B k d, .int .i64 (jGetV D f m kind next n).2.2]) ∧ OB w' w.heap.size 5 B k d (jGetV D f m kind next n).2.1 ∧ DiskS w' base p (jGetV D f m kind next n).1 ∧ Step mutD base p w w' := by
  have c0 : w.cell? ⟨gj, 0, none⟩ = some (.pointer (some ⟨ga, 0, none⟩)) := Blk.cell h 0
  have c1 : w.cell? ⟨gj, 1, none⟩ = some (.int .i64 kind) := Blk.cell h 1
  have c2 : w.cell? ⟨gj, 2, none⟩ = some (.int .i64 (next : Int)) := Blk.cell h 2
  have his := jis_yes h
  unfold jGetV
  by_cases hn : n < 0 ∨ (next : Int) ≤ n
  · rw [if_pos hn]
    have hc : n < 0 ∨ (0 ≤ n ∧ (next : Int) ≤ n) := by omega
    have HD := Lib.hid hd
    clear h hd ha hn
    rcases hc with h1 | ⟨h1, h2⟩
    all_goals
      go_enter Tryz.func101, Tryz.ntmps101
      go_wp2_with (first
        | (go_at_call 103; (with_reducible refine (his).mono ?_); rintro e w1 ⟨rfl, rfl⟩)
        | fail "no arm")
      go_ret2
      exact ⟨none, 0, 0, rfl, Ow.nil _ _ _ _, HD.out, Step.refl _ _ _ _⟩
  · rw [if_neg hn]
    have h1 : 0 ≤ n := by omega
    have h2 : n < next := by omega
    have htk := s_atake (w := w.drew) hd.drew hs (Blk.drew ha) hfm n kind
    have HJ := Lib.hid h
    have HD := Lib.hid hd
    clear h hd ha hn
    generalize aTakeV D f m n kind = T at *
    generalize (aReadV D f m n).1 = D' at *
    obtain ⟨N, L, er⟩ := T
    simp only at htk ⊢
    by_cases her : er = 0
    · subst her
      rw [if_neg (by simp)]
      by_cases hN : N = n
      · subst hN
        rw [if_neg (by simp)]
        have hne : (N != N) = false := by simp
        go_enter Tryz.func101, Tryz.ntmps101
        go_wp2_with (first
          | (go_at_call 103; (with_reducible refine (his).mono ?_); rintro e w1 ⟨rfl, rfl⟩)
          | fail "no arm")
        go_region_held3 (fun w' => w'.cell? ⟨gj, 0, none⟩ = some (.pointer (some ⟨ga, 0, none⟩)) ∧ w'.cell? ⟨gj, 1, none⟩ = some (.int .i64 kind)) (first | go_keep | (refine ⟨?_, ?_⟩ <;> assumption)) (first
          | ((go_at_call 148; (with_reducible refine (htk).mono ?_); rintro e w2 ⟨B, k, d, rfl, o2, h2, s2⟩); have hj2 := HD.out.drew.blk (Blk.drew HJ.out) s2.tch (by decide); have y0 : w2.cell? ⟨gj, 0, none⟩ = some (.pointer (some ⟨ga, 0, none⟩)) := hj2.cell 0; have y1 : w2.cell? ⟨gj, 1, none⟩ = some (.int .i64 kind) := hj2.cell 1)
          | fail "no arm")
        go_wp2
        go_ret2
        exact ⟨B, k, d, rfl, o2, h2, s2.of_drew⟩
      · rw [if_pos hN]
        have hne : (N != n) = true := by rw [bne_iff_ne]; exact hN
        go_enter Tryz.func101, Tryz.ntmps101
        go_wp2_with (first
          | (go_at_call 103; (with_reducible refine (his).mono ?_); rintro e w1 ⟨rfl, rfl⟩)
          | fail "no arm")
        go_region_held3 (fun w' => w'.cell? ⟨gj, 0, none⟩ = some (.pointer (some ⟨ga, 0, none⟩)) ∧ w'.cell? ⟨gj, 1, none⟩ = some (.int .i64 kind)) (first | go_keep | (refine ⟨?_, ?_⟩ <;> assumption)) (first
          | ((go_at_call 148; (with_reducible refine (htk).mono ?_); rintro e w2 ⟨B, k, d, rfl, o2, h2, s2⟩); have hj2 := HD.out.drew.blk (Blk.drew HJ.out) s2.tch (by decide); have y0 : w2.cell? ⟨gj, 0, none⟩ = some (.pointer (some ⟨ga, 0, none⟩)) := hj2.cell 0; have y1 : w2.cell? ⟨gj, 1, none⟩ = some (.int .i64 kind) := hj2.cell 1)
          | fail "no arm")
        go_wp2
        go_ret2
        exact ⟨none, 0, 0, rfl, Ow.nil _ _ _ _, h2, s2.of_drew⟩
    · rw [if_pos her]
      have hne : (er != 0) = true := by rw [bne_iff_ne]; exact her
      have heq : (er == 0) = false := by rw [beq_eq_false_iff_ne]; exact her
      clear her
      go_enter Tryz.func101, Tryz.ntmps101
      go_wp2_with (first
        | (go_at_call 103; (with_reducible refine (his).mono ?_); rintro e w1 ⟨rfl, rfl⟩)
        | fail "no arm")
      go_region_held3 (fun w' => w'.cell? ⟨gj, 0, none⟩ = some (.pointer (some ⟨ga, 0, none⟩)) ∧ w'.cell? ⟨gj, 1, none⟩ = some (.int .i64 kind)) (first | go_keep | (refine ⟨?_, ?_⟩ <;> assumption)) (first
        | ((go_at_call 148; (with_reducible refine (htk).mono ?_); rintro e w2 ⟨B, k, d, rfl, o2, h2, s2⟩); have hj2 := HD.out.drew.blk (Blk.drew HJ.out) s2.tch (by decide); have y0 : w2.cell? ⟨gj, 0, none⟩ = some (.pointer (some ⟨ga, 0, none⟩)) := hj2.cell 0; have y1 : w2.cell? ⟨gj, 1, none⟩ = some (.int .i64 kind) := hj2.cell 1)
        | fail "no arm")
      go_wp2
      go_ret2
      exact ⟨none, 0, 0, rfl, Ow.nil _ _ _ _, h2, s2.of_drew⟩
set_option maxRecDepth 100000 in
set_option maxHeartbeats 4000000 in
theorem jadd_any (h : JrnAt w gj ga kind next) (hd : DiskS w base p D) (hs : base ≤ w.heap.size) (hg : base ≤ gj) (ha : AreaAt w ga p.d f m) (hfm : f + m ≤ D.many) (hm : m ≤ 4096) (hnm : next ≤ m) (hw : D.waits.length < 1000000) (B : Option Addr) (k d : Nat) (l : List UInt8) (hl : RB w B k l) (hk : k ≤ maxLen) :
    Calls Tryz.prog 46 #[.pointer (some ⟨gj, 0, none⟩), .slice B k d] w fun e w' => e = .returned (.tuple #[.int .i64 (jAddV D f m kind next l).2.2.1, .int .i64 (jAddV D f m kind next l).2.2.2]) ∧ DiskS w' base p (jAddV D f m kind next l).1 ∧ JrnAt w' gj ga kind (jAddV D f m kind next l).2.1 ∧ Step mutJ base p w w' := by
  have c0 : w.cell? ⟨gj, 0, none⟩ = some (.pointer (some ⟨ga, 0, none⟩)) := Blk.cell h 0
  have c1 : w.cell? ⟨gj, 1, none⟩ = some (.int .i64 kind) := Blk.cell h 1
  have c2 : w.cell? ⟨gj, 2, none⟩ = some (.int .i64 (next : Int)) := Blk.cell h 2
  have his := jis_yes h
  have hlen := hl.1
  have HD := Lib.hid hd
  have HJ := Lib.hid h
  unfold jAddV
  unfold maxLen at hk
  by_cases h1 : 113 < l.length
  · rw [if_pos h1]
    rw [hlen] at h1
    clear h hd ha hl
    go_enter Tryz.func46, Tryz.ntmps46
    go_wp2_with (first
      | (go_at_call 103; (with_reducible refine (his).mono ?_); rintro e w1 ⟨rfl, rfl⟩)
      | fail "no arm")
    go_ret2
    exact ⟨rfl, HD.out, HJ.out, Step.refl _ _ _ _⟩
  · rw [if_neg h1]
    rw [hlen] at h1
    have hroom := jroom_any h ha hm hnm
    by_cases h2 : m = next
    · rw [if_pos h2]
      subst h2
      have hz : ((m : Int) - m) = 0 := by omega
      rw [hz] at hroom
      clear h hd ha hl hz
      go_enter Tryz.func46, Tryz.ntmps46
      go_wp2_with (first
        | (go_at_call 103; (with_reducible refine (his).mono ?_); rintro e w1 ⟨rfl, rfl⟩)
        | (go_at_call 106; (with_reducible refine (hroom).mono ?_); rintro e w2 ⟨rfl, q2, rfl⟩)
        | fail "no arm")
      go_ret2
      have hb : Below w.heap.size w (w.drewN q2) := below_drewN (Below.refl _ _) q2
      exact ⟨rfl, HD.out.below hb, Blk.drewN HJ.out q2, Step.of_below hb hs⟩
    · rw [if_neg h2]
      have hz : ((m : Int) - next == 0) = false := by rw [beq_eq_false_iff_ne]; omega
      have hput := fun q => s_aput (w := w.drewN q) (d := d) (hd.below (below_drewN (Below.refl _ _) q)) hs (ga := ga) (f := f) (m := m) (Blk.drewN ha q) hfm next kind next B k l (hl.below (below_drewN (Below.refl _ _) q) (Nat.le_refl _)) (by unfold maxLen; omega) (by omega) hw
      generalize aPutV D f m next kind next l = P at *
      obtain ⟨D', z⟩ := P
      simp only at hput ⊢
      by_cases hzz : z = 0
      · subst hzz
        rw [if_neg (by simp)]
        clear h hd ha hl h2
        go_enter Tryz.func46, Tryz.ntmps46
        go_wp2_with (first
          | (go_at_call 103; (with_reducible refine (his).mono ?_); rintro e w1 ⟨rfl, rfl⟩)
          | (go_at_call 106; (with_reducible refine (hroom).mono ?_); rintro e w2 ⟨rfl, q2, rfl⟩)
          | fail "no arm")
        go_region_held3 (fun w' => w'.cell? ⟨gj, 0, none⟩ = some (.pointer (some ⟨ga, 0, none⟩)) ∧ w'.cell? ⟨gj, 1, none⟩ = some (.int .i64 kind)) (first | go_keep | (refine ⟨?_, ?_⟩ <;> assumption)) (first
          | ((go_at_call 107; (with_reducible refine (hput (q2 + 1)).mono ?_); rintro e w3 ⟨rfl, h3, s3⟩); have hj3 := (HD.out.below (below_drewN (Below.refl _ _) (q2 + 1))).blk (Blk.drewN HJ.out (q2 + 1)) s3.tch (by decide); have y0 : w3.cell? ⟨gj, 0, none⟩ = some (.pointer (some ⟨ga, 0, none⟩)) := hj3.cell 0; have y1 : w3.cell? ⟨gj, 1, none⟩ = some (.int .i64 kind) := hj3.cell 1; have y2 : w3.cell? ⟨gj, 2, none⟩ = some (.int .i64 (next : Int)) := hj3.cell 2; have f2 := hj3.frozen 2; have S3 : Step mutJ base p w w3 := ((Step.of_below (M := mutD) (below_drewN (Below.refl _ _) (q2 + 1)) hs).trans s3).mono (fun _ e => List.mem_cons_of_mem _ e))
          | fail "no arm")
        go_wp2
        go_ret2
        have hset : Blk (w3.setCell ⟨gj, 2, none⟩ (.int .i64 ((next : Int) + 1))) gj 200 (jrnC ga kind (next + 1)) := Blk.set_ hj3 2 _
        have st : Step mutJ base p w3 (w3.setCell ⟨gj, 2, none⟩ (.int .i64 ((next : Int) + 1))) := Step.one (grown_setCell _) hj3 (List.mem_cons_self ..) hg (by have := S3.size; omega)
        obtain ⟨A9, c9, h9⟩ := h3
        have hnf : ¬ foot p A9 gj := fun e => by rcases h9.foot_ty hj3 e with q | q | q | q | q <;> exact absurd q (by decide)
        exact ⟨rfl, ⟨A9, c9, h9.keep (F := (· = gj)) (Keep.one (grown_setCell _)) (fun g hg e => hnf (e ▸ hg))⟩, hset, S3.trans st⟩
      · rw [if_pos hzz]
        have hne : (z != 0) = true := by rw [bne_iff_ne]; exact hzz
        clear h hd ha hl h2 hzz
        go_enter Tryz.func46, Tryz.ntmps46
        go_wp2_with (first
          | (go_at_call 103; (with_reducible refine (his).mono ?_); rintro e w1 ⟨rfl, rfl⟩)
          | (go_at_call 106; (with_reducible refine (hroom).mono ?_); rintro e w2 ⟨rfl, q2, rfl⟩)
          | fail "no arm")
        go_region_held3 (fun w' => w'.cell? ⟨gj, 0, none⟩ = some (.pointer (some ⟨ga, 0, none⟩)) ∧ w'.cell? ⟨gj, 1, none⟩ = some (.int .i64 kind)) (first | go_keep | (refine ⟨?_, ?_⟩ <;> assumption)) (first
          | ((go_at_call 107; (with_reducible refine (hput (q2 + 1)).mono ?_); rintro e w3 ⟨rfl, h3, s3⟩); have hj3 := (HD.out.below (below_drewN (Below.refl _ _) (q2 + 1))).blk (Blk.drewN HJ.out (q2 + 1)) s3.tch (by decide); have y0 : w3.cell? ⟨gj, 0, none⟩ = some (.pointer (some ⟨ga, 0, none⟩)) := hj3.cell 0; have y1 : w3.cell? ⟨gj, 1, none⟩ = some (.int .i64 kind) := hj3.cell 1; have y2 : w3.cell? ⟨gj, 2, none⟩ = some (.int .i64 (next : Int)) := hj3.cell 2; have f2 := hj3.frozen 2; have S3 : Step mutJ base p w w3 := ((Step.of_below (M := mutD) (below_drewN (Below.refl _ _) (q2 + 1)) hs).trans s3).mono (fun _ e => List.mem_cons_of_mem _ e))
          | fail "no arm")
        go_wp2
        go_ret2
        exact ⟨rfl, h3, hj3, S3⟩
end
end Go.Proofs.YtalmdccgpigppaaGreat
