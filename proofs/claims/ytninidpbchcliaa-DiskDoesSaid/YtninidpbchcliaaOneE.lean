/- DiskDoes: Read and Write of both disks. -/
import Derived.Test.YtninidpbchcliaaOneD
namespace Go.Proofs.Ytninidpbchcliaa
open Go.RowKit
set_option linter.unusedVariables false
set_option linter.unusedSimpArgs false
theorem eqZeros (W : World) : (Op.equalIn 10000 33 (.agg (zerosL.map bv).toArray) (.agg (zerosL.map bv).toArray)).run Try.prog W = .ok true W := by
  rw [eq128 zerosL zerosL zerosL_len zerosL_len]; simp
section
variable {w w' : World} {base : Nat} {p : DiskP} {q : RDiskP} {D : DiskV}
theorem r_read_yes (h : RDiskS w base q D) (hs : base ≤ w.heap.size) (n : Int) (hm : mayV D n = 0) : Calls Try.prog 75 #[.pointer (some ⟨q.d, 0, none⟩), .int .i64 n] w fun e w' => ∃ ya yc, e = .returned (.tuple #[.slice ya 128 yc, .int .i64 0]) ∧ 128 ≤ yc ∧ yc ≤ maxLen ∧ BytesAt w' base ⟨ya, 128, yc⟩ (secOf D.now n) ∧ RDiskS w' base q (readV' D) ∧ RStep base q w w' := by
  have := r_read h hs n
  unfold readV at this
  rw [if_neg (by omega)] at this
  exact this.mono fun e w' ⟨⟨ya, yn, yc⟩, h1, _, h3, h4, h5⟩ => by
    obtain ⟨⟨e1, e2, e3⟩, hb⟩ := h3 hm
    simp only at e1 e2 e3
    subst e1
    exact ⟨ya, yc, h1, e2, e3, hb, h4, h5⟩
theorem r_read_no (h : RDiskS w base q D) (hs : base ≤ w.heap.size) (n : Int) (hm : mayV D n ≠ 0) : Calls Try.prog 75 #[.pointer (some ⟨q.d, 0, none⟩), .int .i64 n] w fun e w' => e = .returned (.tuple #[.slice none 0 0, .int .i64 (mayV D n)]) ∧ RDiskS w' base q D ∧ RStep base q w w' := by
  have := r_read h hs n
  unfold readV at this
  rw [if_pos hm] at this
  exact this.mono fun e w' ⟨y, h1, h2, _, h4, h5⟩ => by
    have := h2 hm
    subst this
    exact ⟨h1, h4, h5⟩
set_option maxRecDepth 100000 in
set_option maxHeartbeats 8000000 in
theorem one6_three (h : Both w base p q D) (hs : base ≤ w.heap.size) (x : DoV) (B : Option Addr) (m d : Nat) (hk : x.kind = 3) : Calls Try.prog 33 #[.pointer (some ⟨p.d, 0, none⟩), .pointer (some ⟨q.d, 0, none⟩), .agg #[.int .i64 x.kind, .int .i64 x.n, .slice B m d]] w (OnePost w base p q (readV D x.n).1) := by
  rw [hk]
  have bA : Below w.heap.size w (w.alloc (.cells #[.int .i64 3, .int .i64 x.n, .slice B m d] 31)) := (Below.refl _ _).alloc (Nat.le_refl _) _
  have sA : base ≤ (w.alloc (.cells #[.int .i64 3, .int .i64 x.n, .slice B m d] 31)).heap.size := by have := bA.size; omega
  have X1 := Lib.hid (show Blk (w.alloc (.cells #[.int .i64 3, .int .i64 x.n, .slice B m d] 31)) w.heap.size 31 [.int .i64 3, .int .i64 x.n, .slice B m d] from Blk.top _ rfl rfl)
  have D1 := Lib.hid (h.d.below bA)
  have R1 := Lib.hid (h.r.below bA)
  have BA := Lib.hid bA
  have n1 := h.n1
  have n2 := h.n2
  have hok : D.Ok := by obtain ⟨A, c, ck, ci, hr⟩ := h.r; exact hr.ok
  have c1 := s_read D1.out sA x.n
  have hz := (zero_of_info zero128).1
  have Hi := Lib.hid (zero_of_info zero128).2
  have hlz : Hid ((zerosL.map bv).length = 128) := by show _ = _; simp [zerosL_len]
  have hzm := Lib.hid (mem_bv (l := zerosL))
  have heq := eqZeros
  by_cases hm : mayV D x.n = 0
  · have hrv : readV D x.n = (readV' D, secOf D.now x.n, 0) := by unfold readV; rw [if_neg (by omega)]
    obtain ⟨ho, h0, h1⟩ := mayV_zero hm
    have hsl : (secOf D.now x.n).length = 128 := secOf_len (s := D.many) hok.now h0 h1
    have hsl2 := Lib.hid (show ((secOf D.now x.n).map bv).length = 128 by rw [List.length_map]; exact hsl)
    have hsm := Lib.hid (mem_bv (l := secOf D.now x.n))
    rw [hrv] at c1 ⊢
    have c2 := fun {w : World} (hr : RDiskS w base q D) (hs : base ≤ w.heap.size) => r_read_yes hr hs x.n hm
    have HSL := Lib.hid hsl
    clear h bA hk hm hrv ho h0 h1 hsl hok heq
    generalize readV' D = D' at *
    generalize hS : secOf D.now x.n = S at *
    clear hS
    unfold aggB at *
    generalize zerosL.map bv = Z at *
    obtain ⟨SV, hSV⟩ : ∃ SV, S.map bv = SV := ⟨_, rfl⟩
    simp only at c1
    rw [hSV] at c1 hsl2 hsm
    have HSV := Lib.hid hSV
    clear hSV
    go_enter Try.func33, Try.ntmps33
    go_wp2_with (first
      | ((go_at_call 21; (with_reducible refine (c1).mono ?_); rintro e w2 ⟨rfl, d2, st2⟩); have D2 := Lib.hid d2; have R2 := Lib.hid (R1.out.step D1.out st2 n1 n2 (by decide) (by decide)); have B2 := Lib.hid ((BA.out.mono hs).trans st2.bel); have X2 := Lib.hid (D1.out.blk X1.out st2.tch (by decide)); have s2 := B2.out.size; clear d2 st2)
      | (refine wpList_store_arr rfl (x := .tmp 8) (y := .tmp 44) rfl rfl rfl (t := 33) (cs := Z) (xs := SV) (Blk.top _ rfl rfl) Hi.out hsl2.out (by rw [hlz.out]; omega) hsm.out ?_; intro w3 hb3 hg3 hs3; rw [splice_all _ _ (hlz.out.trans hsl2.out.symm)] at hb3; have b3 : Below w2.heap.size w2 w3 := below_of_only ((Below.refl w2.heap.size w2).alloc (Nat.le_refl _) _) hg3 (by first | omega | (simp; done) | (simp; omega)) (by first | omega | (simp; done) | (simp; omega)); have D3 := Lib.hid (D2.out.below b3); have R3 := Lib.hid (R2.out.below b3); have B3 := Lib.hid (B2.out.trans (b3.mono (by omega))); have X3 := Lib.hid (X2.out.below b3 X2.out.lt); have y3 : w3.cell? ⟨w.heap.size, 1, none⟩ = some (.int .i64 x.n) := X3.out.cell 1; have HB3 := Lib.hid hb3; have s3 := B3.out.size; clear hb3 hg3 b3)
      | ((go_at_call 75; (with_reducible refine (c2 R3.out (by omega)).mono ?_); rintro e w4 ⟨ya, yc, rfl, hy1, hy2, hy4, r4, k4⟩); have R4 := Lib.hid r4; have D4 := Lib.hid (D3.out.rstep R3.out k4 n1 n2); have B4 := Lib.hid (B3.out.trans k4.bel); have hb4 := R3.out.blk HB3.out k4 (by decide); have s4 := B4.out.size; have hrb4 : RB w4 (some ⟨w2.heap.size, 0, none⟩) 128 S := (by have := RB.of_block (l := S) hb4 (by rw [HSV.out]); rw [HSL.out] at this; exact this); have hsame := same_any (some ⟨w2.heap.size, 0, none⟩) ya 128 128 128 yc S S w4 hrb4 hy4.1 (by unfold maxLen; omega); rw [decide_eq_true rfl] at hsame; clear r4 k4 hy4 hb4 hrb4 hy1 hy2)
      | ((go_at_call 24; (with_reducible refine (hsame).mono ?_); rintro e w5 ⟨rfl, q5, rfl⟩); have D5 := Lib.hid (D4.out.below (below_drewN (Below.refl _ _) q5)); have R5 := Lib.hid (R4.out.below (below_drewN (Below.refl _ _) q5)); have B5 := Lib.hid (below_drewN B4.out q5))
      | fail "no arm")
    go_ret
    exact ⟨rfl, ⟨D5.out, R5.out, n1, n2⟩, B5.out⟩
  · have hrv : readV D x.n = (D, zerosL, mayV D x.n) := by unfold readV; rw [if_pos hm]
    rw [hrv] at c1 ⊢
    have c2 := fun {w : World} (hr : RDiskS w base q D) (hs : base ≤ w.heap.size) => r_read_no hr hs x.n hm
    have hne : (mayV D x.n != 0) = true := by rw [bne_iff_ne]; exact hm
    clear h bA hk hm hrv hok
    generalize mayV D x.n = z at *
    unfold aggB at *
    generalize zerosL.map bv = Z at *
    simp only at c1
    go_enter Try.func33, Try.ntmps33
    go_wp2_with (first
      | ((go_at_call 21; (with_reducible refine (c1).mono ?_); rintro e w2 ⟨rfl, d2, st2⟩); have D2 := Lib.hid d2; have R2 := Lib.hid (R1.out.step D1.out st2 n1 n2 (by decide) (by decide)); have B2 := Lib.hid ((BA.out.mono hs).trans st2.bel); have X2 := Lib.hid (D1.out.blk X1.out st2.tch (by decide)); have s2 := B2.out.size; clear d2 st2)
      | (refine wpList_store_arr rfl (x := .tmp 8) (y := .tmp 44) rfl rfl rfl (t := 33) (cs := Z) (xs := Z) (Blk.top _ rfl rfl) Hi.out hlz.out (by rw [hlz.out]; omega) hzm.out ?_; intro w3 hb3 hg3 hs3; rw [splice_all _ _ rfl] at hb3; have b3 : Below w2.heap.size w2 w3 := below_of_only ((Below.refl w2.heap.size w2).alloc (Nat.le_refl _) _) hg3 (by first | omega | (simp; done) | (simp; omega)) (by first | omega | (simp; done) | (simp; omega)); have D3 := Lib.hid (D2.out.below b3); have R3 := Lib.hid (R2.out.below b3); have B3 := Lib.hid (B2.out.trans (b3.mono (by omega))); have X3 := Lib.hid (X2.out.below b3 X2.out.lt); have y3 : w3.cell? ⟨w.heap.size, 1, none⟩ = some (.int .i64 x.n) := X3.out.cell 1; have HB3 := Lib.hid hb3; have s3 := B3.out.size; clear hb3 hg3 b3)
      | ((go_at_call 75; (with_reducible refine (c2 R3.out (by omega)).mono ?_); rintro e w4 ⟨rfl, r4, k4⟩); have R4 := Lib.hid r4; have D4 := Lib.hid (D3.out.rstep R3.out k4 n1 n2); have B4 := Lib.hid (B3.out.trans k4.bel); have hb4 := R3.out.blk HB3.out k4 (by decide); have HB4 := Lib.hid hb4; have s4 := B4.out.size; clear r4 k4 hb4)
      | (refine wpList_load_arr rfl (x := .tmp 8) rfl rfl HB4.out Try.underlying33 Hi.out hlz.out (by rw [List.drop_zero, List.take_of_length_le (by rw [hlz.out]; omega)]) ?_)
      | fail "no arm")
    go_ret
    exact ⟨rfl, ⟨D4.out, R4.out, n1, n2⟩, B4.out⟩
set_option maxRecDepth 100000 in
set_option maxHeartbeats 20000000 in
theorem one6_one (h : Both w base p q D) (hs : base ≤ w.heap.size) (x : DoV) (B : Option Addr) (m d : Nat) (hk : x.kind = 1) (hr : RB w B m x.b) (hm : m ≤ maxLen) (hw : D.waits.length < 1000000) : Calls Try.prog 33 #[.pointer (some ⟨p.d, 0, none⟩), .pointer (some ⟨q.d, 0, none⟩), .agg #[.int .i64 x.kind, .int .i64 x.n, .slice B m d]] w (OnePost w base p q (writeV D x.n (fullL x.b)).1) := by
  rw [hk]
  have bA : Below w.heap.size w (w.alloc (.cells #[.int .i64 1, .int .i64 x.n, .slice B m d] 31)) := (Below.refl _ _).alloc (Nat.le_refl _) _
  have X1 := Lib.hid (show Blk (w.alloc (.cells #[.int .i64 1, .int .i64 x.n, .slice B m d] 31)) w.heap.size 31 [.int .i64 1, .int .i64 x.n, .slice B m d] from Blk.top _ rfl rfl)
  obtain ⟨A, c, hd⟩ := h.d
  have hlt := Lib.hid hd.lt
  have D1 := Lib.hid (hd.below bA)
  have R1 := Lib.hid (h.r.below bA)
  have BA := Lib.hid bA
  have n1 := h.n1
  have n2 := h.n2
  have hfull := full_any B m d x.b _ (hr.below bA (Nat.le_refl _)) hm
  have Hi := Lib.hid (zero_of_info zero128).2
  have hz := (zero_of_info zero128).1
  have hlz : Hid ((zerosL.map bv).length = 128) := by show _ = _; simp [zerosL_len]
  have HLF := Lib.hid (fullL_len x.b)
  have hsl : Hid (((fullL x.b).map bv).length = 128) := by show _ = _; rw [List.length_map, fullL_len]
  have hsm := Lib.hid (mem_bv (l := fullL x.b))
  have c1 := fun {w : World} (hd : DiskAt w base p A c D) (hs : base ≤ w.heap.size) => write_any hd x.n (fullL x.b) (fullL_len _) hw hs
  have c2 := fun {w : World} (hr : RDiskS w base q D) (hs : base ≤ w.heap.size) (g d : Nat) (hb : RB w (some ⟨g, 0, none⟩) 128 (fullL x.b)) => r_write hr hs x.n (some ⟨g, 0, none⟩) d (fullL x.b) (fullL_len _) hb hw
  generalize writeV D x.n (fullL x.b) = WV at *
  obtain ⟨D', z⟩ := WV
  generalize fullL x.b = F at *
  have hsa := fun (g : Nat) (W : World) => run_slice_all (P := Try.prog) (t := 33) (e := 5) (n := 128) Try.underlying33 (by kernel_rfl) g 0 W
  have HSA := Lib.hid hsa
  simp only at c1 c2
  unfold aggB at *
  generalize zerosL.map bv = Z at *
  obtain ⟨FV, hFV⟩ : ∃ FV, F.map bv = FV := ⟨_, rfl⟩
  rw [hFV] at c1 hfull hsl hsm
  have HFV := Lib.hid hFV
  clear h hd bA hk hFV hsa hr
  go_enter Try.func33, Try.ntmps33
  go_wp2_with (first
    | ((go_at_call 19; (with_reducible refine (hfull).mono ?_); rintro e w2 ⟨rfl, hb2⟩); have b2 := BA.out.trans (hb2.mono (show w.heap.size ≤ _ from BA.out.size)); have X2 := Lib.hid (X1.out.below hb2 X1.out.lt); have D2 := Lib.hid (D1.out.below hb2); have R2 := Lib.hid (R1.out.below hb2); have B2 := Lib.hid b2; have s2 := b2.size; clear hb2 b2)
    | (refine wpList_store_arr rfl (x := .tmp 7) (y := .tmp 18) rfl rfl rfl (t := 33) (cs := Z) (xs := FV) (Blk.top _ rfl rfl) Hi.out hsl.out (by rw [hlz.out]; omega) hsm.out ?_; intro w3 hb3 hg3 hs3; rw [splice_all _ _ (hlz.out.trans hsl.out.symm)] at hb3; have b3 : Below w2.heap.size w2 w3 := below_of_only ((Below.refl w2.heap.size w2).alloc (Nat.le_refl _) _) hg3 (by first | omega | (simp; done) | (simp; omega)) (by first | omega | (simp; done) | (simp; omega)); have D3 := Lib.hid (D2.out.below b3); have R3 := Lib.hid (R2.out.below b3); have B3 := Lib.hid (B2.out.trans (b3.mono (by omega))); have X3 := Lib.hid (X2.out.below b3 X2.out.lt); have HB3 := Lib.hid hb3; have s3 := B3.out.size; clear hg3 b3)
    | fail "no arm")
  have hg2 : w.heap.size ≤ w2.heap.size := s2
  have hX3 := X3.out
  generalize hgx : w.heap.size = gx at *
  have hnf : ∀ g, gx ≤ g → ¬ foot p A g := fun g hg e => by have := hlt.out g e; omega
  have HNF := Lib.hid hnf
  have HGX := Lib.hid hgx
  generalize w2.heap.size = gb at *
  have y3 : w3.cell? ⟨gx, 1, none⟩ = some (.int .i64 x.n) := hX3.cell 1
  clear hgx hnf hX3
  refine wp_region_held_drew (S := fun w' => w'.cell? ⟨gx, 1, none⟩ = some (.int .i64 x.n) ∧ w'.rangeAt gb 0 FV) (by kernel_rfl) ⟨y3, hb3.drew.range (n := 128) (by rw [List.drop_zero, List.take_of_length_le (by rw [hsl.out]; omega)])⟩ (fun hHeld => ?_)
  refine wpAnyH_take (i := 0) (v := ?_) rfl (by decide +kernel) (by decide +kernel) (by decide +kernel) (fun _ _ _ h => h) (Or.inl ⟨by rfl, ?_⟩) (by assumption) ?_
  rotate_left 1
  · (intro w hSw; (try dsimp only at hSw); go_simp; try (with_reducible rfl))
  try simp only [List.getElem_toArray, List.getElem_cons_zero, List.getElem_cons_succ, Act.put, List.setIfInBounds_toArray, List.set_cons_zero, List.set_cons_succ]
  refine wpAnyH_take (i := 1) (v := ?_) rfl (by decide +kernel) (by decide +kernel) (by decide +kernel) (fun _ _ _ h => h) (Or.inl ⟨by rfl, ?_⟩) (by assumption) ?_
  rotate_left 1
  · (intro w hSw; (try dsimp only at hSw); go_simp; try (with_reducible rfl))
  try simp only [List.getElem_toArray, List.getElem_cons_zero, List.getElem_cons_succ, Act.put, List.setIfInBounds_toArray, List.set_cons_zero, List.set_cons_succ]
  refine wpAnyH_take (i := 2) (v := ?_) rfl (by decide +kernel) (by decide +kernel) (by decide +kernel) (fun _ _ _ h => h) (Or.inl ⟨by rfl, ?_⟩) (by assumption) ?_
  rotate_left 1
  · (intro w hSw; (try dsimp only at hSw); obtain ⟨s1, s2⟩ := hSw; go_simp; rfl)
  try simp only [List.getElem_toArray, List.getElem_cons_zero, List.getElem_cons_succ, Act.put, List.setIfInBounds_toArray, List.set_cons_zero, List.set_cons_succ]
  refine wpAnyH_take (i := 3) (v := _) rfl (by decide +kernel) (by decide +kernel) (by decide +kernel) (fun _ _ _ h => h) (yieldsIf_load_mid (by rfl) _ _ rfl _ _ rfl FV _ (fun _ h => h.2) Try.underlying33 rfl (by rw [hsl.out]; exact Hi.out)) (by assumption) ?_
  try simp only [List.getElem_toArray, List.getElem_cons_zero, List.getElem_cons_succ, Act.put, List.setIfInBounds_toArray, List.set_cons_zero, List.set_cons_succ]
  refine wpAnyH_take (i := 5) (v := ?_) rfl (by decide +kernel) (by decide +kernel) (by decide +kernel) (fun _ _ _ h => h) (Or.inl ⟨by rfl, ?_⟩) (by assumption) ?_
  rotate_left 1
  · (intro w hSw; (try dsimp only at hSw); go_simp; try (with_reducible rfl))
  try simp only [List.getElem_toArray, List.getElem_cons_zero, List.getElem_cons_succ, Act.put, List.setIfInBounds_toArray, List.set_cons_zero, List.set_cons_succ]
  refine wpAnyH_take (i := 6) (v := ?_) rfl (by decide +kernel) (by decide +kernel) (by decide +kernel) (fun _ _ _ h => h) (Or.inl ⟨by rfl, ?_⟩) (by assumption) ?_
  rotate_left 1
  · (intro w hSw; (try dsimp only at hSw); go_simp; try (with_reducible rfl))
  try simp only [List.getElem_toArray, List.getElem_cons_zero, List.getElem_cons_succ, Act.put, List.setIfInBounds_toArray, List.set_cons_zero, List.set_cons_succ]
  refine wpAnyH_take (i := 7) (v := ?_) rfl (by decide +kernel) (by decide +kernel) (by decide +kernel) (fun _ _ _ h => h) (Or.inl ⟨by rfl, ?_⟩) (by assumption) ?_
  rotate_left 1
  · (intro w hSw; (try dsimp only at hSw); obtain ⟨s1, s2⟩ := hSw; go_simp; rfl)
  try simp only [List.getElem_toArray, List.getElem_cons_zero, List.getElem_cons_succ, Act.put, List.setIfInBounds_toArray, List.set_cons_zero, List.set_cons_succ]
  refine wpAnyH_take (i := 8) (v := ?_) rfl (by decide +kernel) (by decide +kernel) (by decide +kernel) (fun _ _ _ h => h) (Or.inl ⟨by rfl, ?_⟩) (by assumption) ?_
  rotate_left 1
  · (intro w hSw; (try dsimp only at hSw); go_simp; rfl)
  try simp only [List.getElem_toArray, List.getElem_cons_zero, List.getElem_cons_succ, Act.put, List.setIfInBounds_toArray, List.set_cons_zero, List.set_cons_succ]
  have D3d : DiskAt w3.drew base p A c D := D3.out.drewN 1
  have sz3 : base ≤ w3.drew.heap.size := by have := B3.out.size; show base ≤ w3.heap.size; omega
  refine wpAnyH_ready (rs := [4]) (by decide +kernel) (by simp) ?_
  refine AllReadyH.cons rfl (fun K hK => ?_) AllReadyH.nil
  go_simp
  (go_at_call 18; (with_reducible refine (c1 D3d sz3).mono ?_); rintro e w4 ⟨rfl, hN⟩)
  have st4 := Step.of_next D3d sz3 hN
  obtain ⟨A4, c4, d4, k4, _⟩ := hN
  have D4 : DiskS w4 base p D' := ⟨A4, c4, d4⟩
  have R4 := (R3.out.below (Below.drew (Below.refl _ _))).step ⟨A, c, D3d⟩ st4 n1 n2 (by decide) (by decide)
  have X4 := (X3.out.drew).keep k4 (HNF.out gx (Nat.le_refl _))
  have HB4 := (HB3.out.drew).keep k4 (HNF.out gb hg2)
  have y4 : w4.cell? ⟨gx, 1, none⟩ = some (.int .i64 x.n) := X4.cell 1
  have s4 := st4.size
  have hrb4 : RB w4 (some ⟨gb, 0, none⟩) 128 F := by
    have := RB.of_block (l := F) HB4 (by rw [HFV.out])
    rw [HLF.out] at this
    exact this
  have sz4 : base ≤ w4.heap.size := by omega
  refine hK.out _ _ (⟨y4, HB4.range (n := 128) (by rw [List.drop_zero, List.take_of_length_le (by rw [hsl.out]; omega)])⟩) (fun hHeld => ?_)
  clear hK K
  try simp only [List.getElem_toArray, List.getElem_cons_zero, List.getElem_cons_succ, Act.put, List.setIfInBounds_toArray, List.set_cons_zero, List.set_cons_succ]
  refine wpAnyH_ready (rs := [9]) (by decide +kernel) (by simp) ?_
  refine AllReadyH.cons rfl (fun K hK => ?_) AllReadyH.nil
  go_simp
  (go_at_call 73; (with_reducible refine (c2 R4 sz4 gb 128 hrb4).mono ?_); rintro e w5 ⟨rfl, r5, k5⟩)
  have X5 := R4.blk X4 k5 (by decide)
  have HB5 := R4.blk HB4 k5 (by decide)
  have y5 : w5.cell? ⟨gx, 1, none⟩ = some (.int .i64 x.n) := X5.cell 1
  have D5 := D4.rstep R4 k5 n1 n2
  have B5 := ((B3.out.mono (show base ≤ gx by have := HGX.out; omega)).drew.trans st4.bel).trans k5.bel
  refine hK.out _ _ (⟨y5, HB5.range (n := 128) (by rw [List.drop_zero, List.take_of_length_le (by rw [hsl.out]; omega)])⟩) (fun hHeld => ?_)
  clear hK K
  try simp only [List.getElem_toArray, List.getElem_cons_zero, List.getElem_cons_succ, Act.put, List.setIfInBounds_toArray, List.set_cons_zero, List.set_cons_succ]
  refine wpAnyH_take (i := 10) (v := ?_) rfl (by decide +kernel) (by decide +kernel) (by decide +kernel) (fun _ _ _ h => h) (Or.inl ⟨by rfl, ?_⟩) (by assumption) ?_
  rotate_left 1
  · (intro w hSw; (try dsimp only at hSw); go_simp; try (with_reducible rfl))
  try simp only [List.getElem_toArray, List.getElem_cons_zero, List.getElem_cons_succ, Act.put, List.setIfInBounds_toArray, List.set_cons_zero, List.set_cons_succ]
  refine wpAnyH_take (i := 11) (v := ?_) rfl (by decide +kernel) (by decide +kernel) (by decide +kernel) (fun _ _ _ h => h) (Or.inl ⟨by rfl, ?_⟩) (by assumption) ?_
  rotate_left 1
  · (intro w hSw; (try dsimp only at hSw); go_simp; try (with_reducible rfl))
  try simp only [List.getElem_toArray, List.getElem_cons_zero, List.getElem_cons_succ, Act.put, List.setIfInBounds_toArray, List.set_cons_zero, List.set_cons_succ]
  refine wpAnyH_done (by decide +kernel) ?_ _
  have HD5 := Lib.hid D5
  have HR5 := Lib.hid r5
  have HB5' := Lib.hid B5
  clear D5 r5 B5 X5 HB5 k5 y5 hrb4 HB4 X4 y4 R4 D4 d4 k4 st4 D3d hHeld
  go_wp2
  go_ret
  exact ⟨rfl, ⟨HD5.out, HR5.out, n1, n2⟩, HB5'.out⟩
theorem one6_any (h : Both w base p q D) (hs : base ≤ w.heap.size) (x : DoV) (B : Option Addr) (m d : Nat) (hr : RB w B m x.b) (hB : 0 < m → ∀ g, B.map (·.block) = some g → g < base) (hm : m ≤ maxLen) (hn : x.n ≤ 9223372036854775807) (hw : D.waits.length < 1000000) :
    Calls Try.prog 33 #[.pointer (some ⟨p.d, 0, none⟩), .pointer (some ⟨q.d, 0, none⟩), .agg #[.int .i64 x.kind, .int .i64 x.n, .slice B m d]] w (OnePost w base p q (stepD D x)) := by
  unfold stepD
  by_cases h1 : x.kind = 1
  · rw [if_pos h1]; exact one6_one h hs x B m d h1 hr hm hw
  rw [if_neg h1]
  by_cases h2 : x.kind = 2
  · rw [if_pos h2]; exact one6_two h hs x B m d h2
  rw [if_neg h2]
  by_cases h3 : x.kind = 3
  · rw [if_pos h3]; exact one6_three h hs x B m d h3
  rw [if_neg h3]
  by_cases h4 : x.kind = 4
  · rw [if_pos h4]; exact one6_four h hs x B m d h4 hn
  rw [if_neg h4]
  by_cases h5 : x.kind = 5
  · rw [if_pos h5]; exact one6_five h hs x B m d h5 hr hB hm
  rw [if_neg h5]
  exact one6_else h hs x B m d h1 h2 h3 h4 h5
end
end Go.Proofs.Ytninidpbchcliaa
