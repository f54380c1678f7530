/- Parts: AreaB. -/
import Derived.Test.YtalmdccgpigppaaPr24
import Derived.Test.YtalmdccgpigppaaPr19
namespace Go.Proofs.Ytalmdccgpigppaa
open Go.RowKit
set_option linter.unusedVariables false
set_option linter.unusedSimpArgs false
def aReadV (D : DiskV) (f m : Nat) (n : Int) : DiskV × List UInt8 × Int := if n < 0 ∨ (m : Int) ≤ n then (D, zerosL, 51) else readV D ((f : Int) + n)
def aWriteV (D : DiskV) (f m : Nat) (n : Int) (b : List UInt8) : DiskV × Int := if n < 0 ∨ (m : Int) ≤ n then (D, 51) else writeV D ((f : Int) + n) b
section
variable {w w' : World} {base ga f m : Nat} {p : DiskP} {A : Option Addr} {c : Nat} {D : DiskV}
theorem aReadV_len (h : D.Ok) (n : Int) : (aReadV D f m n).2.1.length = 128 := by
  unfold aReadV
  split
  · exact zerosL_len
  · exact readV_len h _
set_option maxRecDepth 100000 in
set_option maxHeartbeats 4000000 in
theorem read1_any {g2 g6 : Nat} (h : DiskAt w base p A c D) (ha : AreaAt w ga p.d f m) (hbox : Blk w g2 28 [.pointer (some ⟨ga, 0, none⟩)]) {Z : List UInt8} (hx : BlkB w g6 128 Z) (hZ : Z.length = 128) (hnf : ¬ foot p A g6) (n : Int) :
    Calls Try.prog 106 #[.int .i64 n, .pointer (some ⟨g2, 0, none⟩), .pointer (some ⟨g6, 0, none⟩)] w fun e w' => ∃ z, e = .returned (.int .i64 z) ∧
      (z = (readV D n).2.2 ∧ DiskAt w' base p A c (readV D n).1 ∧ BlkB w' g6 128 (readV D n).2.1 ∧ Keep (fun g => foot p A g ∨ g = g6) w w') := by
  have Hi := Lib.hid (zero_of_info zero128).2
  have hl := readV_len h.ok n
  have hrd := dread_any h n
  generalize readV D n = R at *
  obtain ⟨D', S, z⟩ := R
  simp only at hl hrd ⊢
  have c0 : w.cell? ⟨g2, 0, none⟩ = some (.pointer (some ⟨ga, 0, none⟩)) := hbox.cell 0
  have c1 : w.cell? ⟨ga, 0, none⟩ = some (.pointer (some ⟨p.d, 0, none⟩)) := Blk.cell ha 0
  have hsl : Hid ((S.map bv).length = 128) := by show _ = _; rw [List.length_map, hl]
  have hsm := Lib.hid (mem_bv (l := S))
  have hzl : Hid ((Z.map bv).length = 128) := by show _ = _; rw [List.length_map, hZ]
  have HX := Lib.hid hx
  have H := Lib.hid h
  unfold aggB at hrd
  unfold BlkB at HX ⊢
  generalize S.map bv = SV at *
  clear h ha hbox hx hl hZ
  go_enter Try.func106, Try.ntmps106
  go_wp2_with (first
    | ((go_at_call 107; (with_reducible refine (hrd).mono ?_); rintro e w1 ⟨rfl, h1, k1⟩); have hx1 := HX.out.keep k1 hnf; have H1 := Lib.hid h1; clear h1)
    | (refine wpList_store_arr rfl (x := .tmp 2) (y := .tmp 12) rfl rfl rfl hx1 Hi.out hsl.out (by rw [hzl.out]; omega) hsm.out ?_; intro w2 hb2 hg2 hs2; rw [splice_all _ _ (hzl.out.trans hsl.out.symm)] at hb2)
    | fail "no arm")
  go_ret
  exact ⟨z, rfl, rfl, H1.out.keep (F := (· = g6)) (Keep.one hg2) (fun g hg e => hnf (e ▸ hg)), hb2, (k1.mono (fun g _ hg => .inl hg)).trans (G := (· = g6)) (Keep.one hg2) (fun g _ e => .inr e)⟩
set_option maxRecDepth 100000 in
set_option maxHeartbeats 4000000 in
theorem aread_any (h : DiskAt w base p A c D) (ha : AreaAt w ga p.d f m) (hfm : f + m ≤ D.many) (n : Int) :
    Calls Try.prog 76 #[.pointer (some ⟨ga, 0, none⟩), .int .i64 n] w fun e w' => e = .returned (.tuple #[aggB (aReadV D f m n).2.1, .int .i64 (aReadV D f m n).2.2]) ∧ DiskAt w' base p A c (aReadV D f m n).1 ∧ Keep (foot p A) w w' := by
  have hz := (zero_of_info zero128).1
  have Hi := Lib.hid (zero_of_info zero128).2
  have hlz : Hid ((zerosL.map bv).length = 128) := by show _ = _; simp [zerosL_len]
  have HZm := Lib.hid (mem_bv (l := zerosL))
  have hfm4 : f + m ≤ 4096 := by have := h.ok.many1; omega
  have hl4 := Lib.hid (fun g hg => h.lt g hg)
  have H := Lib.hid h
  have HA := Lib.hid ha
  unfold aReadV
  by_cases hn : n < 0 ∨ (m : Int) ≤ n
  · rw [if_pos hn]
    simp only
    have hout := fun o1 o2 o3 => at_out (k := 106) (caps := #[.pointer (some ⟨w.heap.size, 0, none⟩), .pointer (some ⟨w.heap.size + 2, 0, none⟩)]) (((ha.below ((Below.refl _ _).alloc (Nat.le_refl _) o1)).below ((Below.refl _ _).alloc (Nat.le_refl _) o2)).below ((Below.refl _ _).alloc (Nat.le_refl _) o3)) n hn
    unfold aggB at *
    generalize zerosL.map bv = Z at *
    clear h ha hn
    go_enter Try.func76, Try.ntmps76
    go_wp2_with (first
      | (go_at_call 105; (with_reducible refine (hout _ _ _).mono ?_); rintro e w1 ⟨rfl, rfl⟩)
      | (refine wpList_load_arr rfl (x := .tmp 6) rfl rfl (t := 128) (cs := Z) (by (repeat' (first | (with_reducible assumption) | (with_reducible refine Blk.top _ (by first | rfl | omega | (simp; done) | (simp; omega)) rfl) | (with_reducible refine Blk.alloc ?_ _) | (with_reducible refine Blk.drew ?_) | (with_reducible refine Blk.drewN ?_ _) | (with_reducible refine Blk.far ?_ (by first | omega | (simp; done) | (simp; omega)) _)))) Try.underlying128 Hi.out hlz.out (xs := Z) (by rw [List.drop_zero, List.take_of_length_le (by rw [hlz.out]; omega)]) ?_)
      | (refine wpList_store_arr rfl (x := .tmp 4) (y := .tmp 12) rfl rfl rfl (t := 128) (cs := Z) (xs := Z) (by (repeat' (first | (with_reducible assumption) | (with_reducible refine Blk.top _ (by first | rfl | omega | (simp; done) | (simp; omega)) rfl) | (with_reducible refine Blk.alloc ?_ _) | (with_reducible refine Blk.drew ?_) | (with_reducible refine Blk.drewN ?_ _) | (with_reducible refine Blk.far ?_ (by first | omega | (simp; done) | (simp; omega)) _)))) Hi.out hlz.out (by rw [hlz.out]; omega) HZm.out ?_; intro w2 hb2 hg2 hs2; rw [splice_all _ _ rfl] at hb2)
      | fail "no arm")
    refine bodyPost_ret (v := .tuple #[.agg Z.toArray, .int .i64 51]) (results_arr_tmp Try.results76 _ rfl rfl hb2 Try.underlying128 Hi.out hlz.out) rfl ?_
    have hb : Below w.heap.size w w2 := below_of_only ((((Below.refl w.heap.size w).alloc (Nat.le_refl _) _).alloc (by first | omega | (simp; done) | (simp; omega)) _).alloc (by first | omega | (simp; done) | (simp; omega)) _) hg2 (by first | omega | (simp; done) | (simp; omega)) (by first | omega | (simp; done) | (simp; omega))
    exact ⟨rfl, H.out.below hb, Keep.of_below hb⟩
  · rw [if_neg hn]
    have hin := fun W (q1 : DiskAt W base p A c D) q2 g2 g6 q3 q4 q5 => at_read (w := W) (ga := ga) (d := p.d) (f := f) (m := m) (x1 := .pointer (some ⟨g2, 0, none⟩)) (x2 := .pointer (some ⟨g6, 0, none⟩)) (R := fun z w' => z = (readV D ((f : Int) + n)).2.2 ∧ DiskAt w' base p A c (readV D ((f : Int) + n)).1 ∧ BlkB w' g6 128 (readV D ((f : Int) + n)).2.1 ∧ Keep (fun g => foot p A g ∨ g = g6) W w') q2 n (by omega) (by omega) hfm4 (read1_any (g2 := g2) (g6 := g6) q1 q2 q3 (Z := zerosL) q4 zerosL_len q5 ((f : Int) + n))
    have hl := readV_len h.ok ((f : Int) + n)
    generalize readV D ((f : Int) + n) = RR at *
    obtain ⟨D', S, z⟩ := RR
    simp only at hl hin ⊢
    have hsl : Hid ((S.map bv).length = 128) := by show _ = _; rw [List.length_map, hl]
    have hsm := Lib.hid (mem_bv (l := S))
    unfold aggB BlkB at *
    generalize S.map bv = SV at *
    generalize zerosL.map bv = Z at *
    clear h ha hn hl
    go_enter Try.func76, Try.ntmps76
    go_wp2_with (first
      | ((go_at_call 105; (with_reducible refine (hin _ (((H.out.alloc _).alloc _).alloc _) (((HA.out.below ((Below.refl _ _).alloc (Nat.le_refl _) _)).below ((Below.refl _ _).alloc (Nat.le_refl _) _)).below ((Below.refl _ _).alloc (Nat.le_refl _) _)) w.heap.size (w.heap.size + 2) (by (repeat' (first | (with_reducible assumption) | (with_reducible refine Blk.top _ (by first | rfl | omega | (simp; done) | (simp; omega)) rfl) | (with_reducible refine Blk.alloc ?_ _) | (with_reducible refine Blk.drew ?_) | (with_reducible refine Blk.drewN ?_ _) | (with_reducible refine Blk.far ?_ (by first | omega | (simp; done) | (simp; omega)) _)))) (by (repeat' (first | (with_reducible assumption) | (with_reducible refine Blk.top _ (by first | rfl | omega | (simp; done) | (simp; omega)) rfl) | (with_reducible refine Blk.alloc ?_ _) | (with_reducible refine Blk.drew ?_) | (with_reducible refine Blk.drewN ?_ _) | (with_reducible refine Blk.far ?_ (by first | omega | (simp; done) | (simp; omega)) _)))) (fun e => by have := hl4.out _ e; omega)).mono ?_); rintro e w1 ⟨z9, rfl, hz9, h1, hx1, k1⟩); subst hz9; have hr1 := Blk.keep (g := w.heap.size + 1) (t := 128) (cs := Z) (by (repeat' (first | (with_reducible assumption) | (with_reducible refine Blk.top _ (by first | rfl | omega | (simp; done) | (simp; omega)) rfl) | (with_reducible refine Blk.alloc ?_ _) | (with_reducible refine Blk.drew ?_) | (with_reducible refine Blk.drewN ?_ _) | (with_reducible refine Blk.far ?_ (by first | omega | (simp; done) | (simp; omega)) _)))) k1 (fun e => by rcases e with e | e; have := hl4.out _ e; omega; omega); have H1 := Lib.hid h1; clear h1)
      | (refine wpList_load_arr rfl (x := .tmp 6) rfl rfl hx1 Try.underlying128 Hi.out hsl.out (xs := SV) (by rw [List.drop_zero, List.take_of_length_le (by rw [hsl.out]; omega)]) ?_)
      | (refine wpList_store_arr rfl (x := .tmp 4) (y := .tmp 12) rfl rfl rfl hr1 Hi.out hsl.out (by rw [hlz.out]; omega) hsm.out ?_; intro w2 hb2 hg2 hs2; rw [splice_all _ _ (hlz.out.trans hsl.out.symm)] at hb2)
      | fail "no arm")
    refine bodyPost_ret (v := .tuple #[.agg SV.toArray, .int .i64 z9]) (results_arr_tmp Try.results76 _ rfl rfl hb2 Try.underlying128 Hi.out hsl.out) rfl ?_
    refine ⟨rfl, H1.out.keep (F := (· = w.heap.size + 1)) (Keep.one hg2) (fun g hg e => by have := hl4.out _ hg; omega), ?_⟩
    have k2 : Keep (fun g => foot p A g ∨ g = w.heap.size + 2 ∨ g = w.heap.size + 1) w w2 := ((((((Keep.refl _ w).alloc _).alloc _).alloc _).trans k1 (fun g _ e => by rcases e with e | e; exact .inl e; exact .inr (.inl e))).trans (G := (· = w.heap.size + 1)) (Keep.one hg2) (fun g _ e => .inr (.inr e)))
    exact k2.mono (fun g hg e => by rcases e with e | e | e; exact e; omega; omega)
set_option maxRecDepth 100000 in
set_option maxHeartbeats 4000000 in
theorem write1_any {g3 g5 : Nat} (h : DiskAt w base p A c D) (ha : AreaAt w ga p.d f m) (hbox : Blk w g3 28 [.pointer (some ⟨ga, 0, none⟩)]) {S : List UInt8} (hx : BlkB w g5 128 S) (hS : S.length = 128) (hnf : ¬ foot p A g5) (n : Int) (hw : D.waits.length < 1000000) (hbase : base ≤ w.heap.size) :
    Calls Try.prog 109 #[.int .i64 n, .pointer (some ⟨g3, 0, none⟩), .pointer (some ⟨g5, 0, none⟩)] w fun e w' => ∃ z, e = .returned (.int .i64 z) ∧ (z = (writeV D n S).2 ∧ DiskNext w base p A (writeV D n S).1 w') := by
  have Hi := Lib.hid (zero_of_info zero128).2
  have hwr := fun w' (hb : Below w.heap.size w w') => write_any (h.below hb) n S hS hw (by have := hb.size; omega)
  have c0 : w.cell? ⟨g3, 0, none⟩ = some (.pointer (some ⟨ga, 0, none⟩)) := hbox.cell 0
  have c1 : w.cell? ⟨ga, 0, none⟩ = some (.pointer (some ⟨p.d, 0, none⟩)) := Blk.cell ha 0
  have hsl : Hid ((S.map bv).length = 128) := by show _ = _; rw [List.length_map, hS]
  have hxr := Blk.range (o := 0) (n := 128) (xs := S.map bv) hx (by rw [List.drop_zero, List.take_of_length_le (by rw [hsl.out]; omega)])
  generalize (writeV D n S).1 = D' at *
  generalize (writeV D n S).2 = z at *
  unfold aggB at hwr
  unfold BlkB at hx
  generalize S.map bv = SV at *
  have hnx : ∀ w1 w2, Below w.heap.size w w1 → DiskNext w1 base p A D' w2 → DiskNext w base p A D' w2 := fun w1 w2 hb ⟨A', c', h1, k, n⟩ => ⟨A', c', h1, (Keep.of_below hb).trans k (fun _ _ e => e), fun g e => by rcases n g e with q | q; exact .inl q; exact .inr (by have := hb.size; omega)⟩
  have HX := Lib.hid hx
  have HB := Lib.hid hbox
  have HA := Lib.hid ha
  have H := Lib.hid h
  clear h ha hbox hx hS
  go_enter Try.func109, Try.ntmps109
  go_wp2
  refine wp_region_held_drew (S := fun w' => w'.cell? ⟨g3, 0, none⟩ = some (.pointer (some ⟨ga, 0, none⟩)) ∧ w'.cell? ⟨ga, 0, none⟩ = some (.pointer (some ⟨p.d, 0, none⟩)) ∧ w'.rangeAt g5 0 SV) (by kernel_rfl) ⟨c0, c1, hxr⟩ (fun hHeld => ?_)
  refine wpAnyH_take (i := 0) (v := ?_) rfl (by decide +kernel) (by decide +kernel) (by decide +kernel) (fun _ _ _ h => h) (Or.inl ⟨by rfl, ?_⟩) (by assumption) ?_
  rotate_left 1
  · (intro w hSw; (try dsimp only at hSw); obtain ⟨s1, s2, s3⟩ := hSw; go_simp; rfl)
  try simp only [List.getElem_toArray, List.getElem_cons_zero, List.getElem_cons_succ, Act.put, List.setIfInBounds_toArray, List.set_cons_zero, List.set_cons_succ]
  refine wpAnyH_take (i := 1) (v := ?_) rfl (by decide +kernel) (by decide +kernel) (by decide +kernel) (fun _ _ _ h => h) (Or.inl ⟨by rfl, ?_⟩) (by assumption) ?_
  rotate_left 1
  · (intro w hSw; (try dsimp only at hSw); go_simp; try (with_reducible rfl))
  try simp only [List.getElem_toArray, List.getElem_cons_zero, List.getElem_cons_succ, Act.put, List.setIfInBounds_toArray, List.set_cons_zero, List.set_cons_succ]
  refine wpAnyH_take (i := 2) (v := ?_) rfl (by decide +kernel) (by decide +kernel) (by decide +kernel) (fun _ _ _ h => h) (Or.inl ⟨by rfl, ?_⟩) (by assumption) ?_
  rotate_left 1
  · (intro w hSw; (try dsimp only at hSw); go_simp; try (with_reducible rfl))
  try simp only [List.getElem_toArray, List.getElem_cons_zero, List.getElem_cons_succ, Act.put, List.setIfInBounds_toArray, List.set_cons_zero, List.set_cons_succ]
  refine wpAnyH_take (i := 3) (v := ?_) rfl (by decide +kernel) (by decide +kernel) (by decide +kernel) (fun _ _ _ h => h) (Or.inl ⟨by rfl, ?_⟩) (by assumption) ?_
  rotate_left 1
  · (intro w hSw; (try dsimp only at hSw); obtain ⟨s1, s2, s3⟩ := hSw; go_simp; rfl)
  try simp only [List.getElem_toArray, List.getElem_cons_zero, List.getElem_cons_succ, Act.put, List.setIfInBounds_toArray, List.set_cons_zero, List.set_cons_succ]
  refine wpAnyH_take (i := 4) (v := ?_) rfl (by decide +kernel) (by decide +kernel) (by decide +kernel) (fun _ _ _ h => h) (Or.inl ⟨by rfl, ?_⟩) (by assumption) ?_
  rotate_left 1
  · (intro w hSw; (try dsimp only at hSw); go_simp; try (with_reducible rfl))
  try simp only [List.getElem_toArray, List.getElem_cons_zero, List.getElem_cons_succ, Act.put, List.setIfInBounds_toArray, List.set_cons_zero, List.set_cons_succ]
  refine wpAnyH_take (i := 5) (v := _) rfl (by decide +kernel) (by decide +kernel) (by decide +kernel) (fun _ _ _ h => h) (yieldsIf_load_mid (by rfl) _ _ rfl _ _ rfl SV _ (fun _ h => h.2.2) Try.underlying128 rfl (by rw [hsl.out]; exact Hi.out)) (by assumption) ?_
  try simp only [List.getElem_toArray, List.getElem_cons_zero, List.getElem_cons_succ, Act.put, List.setIfInBounds_toArray, List.set_cons_zero, List.set_cons_succ]
  refine wpAnyH_ready (rs := [6]) (by decide +kernel) (by simp) ?_
  refine AllReadyH.cons rfl (fun K hK => ?_) AllReadyH.nil
  go_simp
  (go_at_call 110; (with_reducible refine (hwr _ (by (repeat' (first | (with_reducible exact Below.refl _ _) | (with_reducible assumption) | (with_reducible refine Below.drew ?_) | (with_reducible refine below_drewN ?_ _) | (with_reducible refine Below.alloc ?_ ?_ _) | (with_reducible refine Below.setCell ?_ ?_ _) | omega | (simp; done) | (simp; omega))))).mono ?_); rintro e w1 ⟨rfl, hN⟩)
  have hN2 := hnx _ _ (by (repeat' (first | (with_reducible exact Below.refl _ _) | (with_reducible assumption) | (with_reducible refine Below.drew ?_) | (with_reducible refine below_drewN ?_ _) | (with_reducible refine Below.alloc ?_ ?_ _) | (with_reducible refine Below.setCell ?_ ?_ _) | omega | (simp; done) | (simp; omega)))) hN
  have kk := (show Keep (foot p A) w w1 from (by obtain ⟨_, _, _, k, _⟩ := hN2; exact k))
  have HB1 := HB.out.keep kk (fun e => by rcases H.out.foot_ty HB.out e with q | q | q | q | q <;> exact absurd q (by decide))
  have HA1 := HA.out.spares H.out kk
  have HX1 := HX.out.keep kk hnf
  have d0 : w1.cell? ⟨g3, 0, none⟩ = some (.pointer (some ⟨ga, 0, none⟩)) := HB1.cell 0
  have d1 : w1.cell? ⟨ga, 0, none⟩ = some (.pointer (some ⟨p.d, 0, none⟩)) := Blk.cell HA1 0
  have d2 := Blk.range (o := 0) (n := 128) (xs := SV) HX1 (by rw [List.drop_zero, List.take_of_length_le (by rw [hsl.out]; omega)])
  have HN2 := Lib.hid hN2
  clear hN2 hN HB1 HA1 HX1
  refine hK.out _ _ (⟨d0, d1, d2⟩) (fun hHeld => ?_)
  clear hK K
  try simp only [List.getElem_toArray, List.getElem_cons_zero, List.getElem_cons_succ, Act.put, List.setIfInBounds_toArray, List.set_cons_zero, List.set_cons_succ]
  refine wpAnyH_take (i := 7) (v := ?_) rfl (by decide +kernel) (by decide +kernel) (by decide +kernel) (fun _ _ _ h => h) (Or.inl ⟨by rfl, ?_⟩) (by assumption) ?_
  rotate_left 1
  · (intro w hSw; (try dsimp only at hSw); go_simp; try (with_reducible rfl))
  try simp only [List.getElem_toArray, List.getElem_cons_zero, List.getElem_cons_succ, Act.put, List.setIfInBounds_toArray, List.set_cons_zero, List.set_cons_succ]
  refine wpAnyH_done (by decide +kernel) ?_ _
  go_wp2
  go_ret
  exact ⟨z, rfl, rfl, hnx _ _ (Below.refl _ _) HN2.out⟩
set_option maxRecDepth 100000 in
set_option maxHeartbeats 4000000 in
theorem awrite_any (h : DiskAt w base p A c D) (ha : AreaAt w ga p.d f m) (hfm : f + m ≤ D.many) (n : Int) (S : List UInt8) (hS : S.length = 128) (hw : D.waits.length < 1000000) (hbase : base ≤ w.heap.size) :
    Calls Try.prog 83 #[.pointer (some ⟨ga, 0, none⟩), .int .i64 n, aggB S] w fun e w' => e = .returned (.int .i64 (aWriteV D f m n S).2) ∧ DiskNext w base p A (aWriteV D f m n S).1 w' := by
  have hfm4 : f + m ≤ 4096 := by have := h.ok.many1; omega
  have Hi := Lib.hid (zero_of_info zero128).2
  have hl4 := Lib.hid (fun g hg => h.lt g hg)
  have hsl : Hid ((S.map bv).length = 128) := by show _ = _; rw [List.length_map, hS]
  have hnx : ∀ D' w1 w2, Below w.heap.size w w1 → DiskNext w1 base p A D' w2 → DiskNext w base p A D' w2 := fun D' w1 w2 hb ⟨A', c', h1, k, n⟩ => ⟨A', c', h1, (Keep.of_below hb).trans k (fun _ _ e => e), fun g e => by rcases n g e with q | q; exact .inl q; exact .inr (by have := hb.size; omega)⟩
  have H := Lib.hid h
  have HA := Lib.hid ha
  unfold aWriteV
  by_cases hn : n < 0 ∨ (m : Int) ≤ n
  · rw [if_pos hn]
    simp only
    have hout := fun o1 o2 => at_out (k := 109) (caps := #[.pointer (some ⟨w.heap.size, 0, none⟩), .pointer (some ⟨w.heap.size + 1, 0, none⟩)]) ((ha.below ((Below.refl _ _).alloc (Nat.le_refl _) o1)).below ((Below.refl _ _).alloc (Nat.le_refl _) o2)) n hn
    unfold aggB at *
    generalize S.map bv = SV at *
    clear h ha hn
    go_enter Try.func83, Try.ntmps83
    go_wp2_with (first
      | (go_at_call 105; (with_reducible refine (hout _ _).mono ?_); rintro e w1 ⟨rfl, rfl⟩)
      | fail "no arm")
    go_ret
    exact ⟨rfl, hnx _ _ _ (by (repeat' (first | (with_reducible exact Below.refl _ _) | (with_reducible assumption) | (with_reducible refine Below.drew ?_) | (with_reducible refine below_drewN ?_ _) | (with_reducible refine Below.alloc ?_ ?_ _) | (with_reducible refine Below.setCell ?_ ?_ _) | omega | (simp; done) | (simp; omega)))) (DiskNext.same ((H.out.alloc _).alloc _) (Below.refl _ _))⟩
  · rw [if_neg hn]
    have hin := fun W (q1 : DiskAt W base p A c D) q2 g2 g6 q3 q4 q5 q6 => at_write (w := W) (ga := ga) (d := p.d) (f := f) (m := m) (x1 := .pointer (some ⟨g2, 0, none⟩)) (x2 := .pointer (some ⟨g6, 0, none⟩)) (R := fun z w' => z = (writeV D ((f : Int) + n) S).2 ∧ DiskNext W base p A (writeV D ((f : Int) + n) S).1 w') q2 n (by omega) (by omega) hfm4 (write1_any (g3 := g2) (g5 := g6) q1 q2 q3 (S := S) q4 hS q5 ((f : Int) + n) hw q6)
    generalize writeV D ((f : Int) + n) S = RR at *
    obtain ⟨D', z⟩ := RR
    simp only at hin ⊢
    unfold aggB BlkB at *
    generalize S.map bv = SV at *
    clear h ha hn
    go_enter Try.func83, Try.ntmps83
    go_wp2_with (first
      | ((go_at_call 105; (with_reducible refine (hin _ ((H.out.alloc _).alloc _) ((HA.out.below ((Below.refl _ _).alloc (Nat.le_refl _) _)).below ((Below.refl _ _).alloc (Nat.le_refl _) _)) w.heap.size (w.heap.size + 1) (by (repeat' (first | (with_reducible assumption) | (with_reducible refine Blk.top _ (by first | rfl | omega | (simp; done) | (simp; omega)) rfl) | (with_reducible refine Blk.alloc ?_ _) | (with_reducible refine Blk.drew ?_) | (with_reducible refine Blk.drewN ?_ _) | (with_reducible refine Blk.far ?_ (by first | omega | (simp; done) | (simp; omega)) _)))) (by (repeat' (first | (with_reducible assumption) | (with_reducible refine Blk.top _ (by first | rfl | omega | (simp; done) | (simp; omega)) rfl) | (with_reducible refine Blk.alloc ?_ _) | (with_reducible refine Blk.drew ?_) | (with_reducible refine Blk.drewN ?_ _) | (with_reducible refine Blk.far ?_ (by first | omega | (simp; done) | (simp; omega)) _)))) (fun e => by have := hl4.out _ e; omega) (by first | omega | (simp; done) | (simp; omega))).mono ?_); rintro e w1 ⟨z9, rfl, hz9, hN⟩))
      | fail "no arm")
    go_ret
    subst hz9
    exact ⟨rfl, hnx _ _ _ (by (repeat' (first | (with_reducible exact Below.refl _ _) | (with_reducible assumption) | (with_reducible refine Below.drew ?_) | (with_reducible refine below_drewN ?_ _) | (with_reducible refine Below.alloc ?_ ?_ _) | (with_reducible refine Below.setCell ?_ ?_ _) | omega | (simp; done) | (simp; omega)))) hN⟩
end
end Go.Proofs.Ytalmdccgpigppaa
