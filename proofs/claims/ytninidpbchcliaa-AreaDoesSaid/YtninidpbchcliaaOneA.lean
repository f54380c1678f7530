/- AreaDoes: what is done to both areas. -/
import Derived.Test.YtninidpbchcliaaRAreaA
import Derived.Test.YtninidpbchcliaaAreaD
import Derived.Deep.DeepCutAuto
import Derived.Deep.CutBlock
namespace Go.Proofs.Ytninidpbchcliaa
open Go.RowKit
set_option linter.unusedVariables false
set_option linter.unusedSimpArgs false
/-- What is done. -/
def stepA (D : DiskV) (f m : Nat) (x : Do8V) : DiskV :=
  if x.kind = 1 then (aWriteV D f m x.n (fullL x.b)).1 else if x.kind = 2 then (flushV D).1 else if x.kind = 3 then (aReadV D f m x.n).1 else if x.kind = 4 then (aWriteV D f m x.n zerosL).1
  else if x.kind = 5 then (aPutV D f m x.n x.k x.m x.b).1 else if x.kind = 6 then (aReadV D f m x.n).1 else if x.kind = 7 then crashV D x.b else D
def OneAPost (base : Nat) (p : DiskP) (q : RDiskP) (ga f m : Nat) (w : World) (D : DiskV) (e : Ending) (w' : World) : Prop := e = .returned (.bool true) ∧ Both w' base p q D ∧ AreaAt w' ga p.d f m ∧ Below base w w' ∧ (∀ (g : Nat) (cs : List Value), Blk w g 84 cs → Blk w' g 84 cs)
/-- What is known behind the first calls. -/
structure OneAt (w0 w : World) (base : Nat) (p : DiskP) (q : RDiskP) (A : Option Addr) (c ga f m gw gx gb : Nat) (D : DiskV) (x : Do8V) (B : Option Addr) (k d : Nat) (FV : List Value) : Prop where
  hd : DiskAt w base p A c D
  hr : RDiskS w base q D
  n1 : q.gi ≠ p.gi
  n2 : q.gi ≠ p.gm
  ha : AreaAt w ga p.d f m
  xw : Blk w gw 84 [.pointer (some ⟨q.d, 0, none⟩), .int .i64 (f : Nat), .int .i64 (m : Nat)]
  xx : Blk w gx 76 (do8C x B k d)
  xb : Blk w gb 33 FV
  bel : Below base w0 w
  bs : base ≤ w0.heap.size
  hnf : ¬ foot p A gw ∧ ¬ foot p A gx ∧ ¬ foot p A gb
  old : ∀ (g : Nat) (cs : List Value), Blk w0 g 84 cs → Blk w g 84 cs
theorem eqZeros (W : World) : (Op.equalIn 10000 33 (.agg (zerosL.map bv).toArray) (.agg (zerosL.map bv).toArray)).run Try.prog W = .ok true W := by
  rw [eq128 zerosL zerosL zerosL_len zerosL_len]; simp
theorem aReadV_zero (D : DiskV) (f m : Nat) (n : Int) (h : (aReadV D f m n).2.2 ≠ 0) : (aReadV D f m n).2.1 = zerosL := by
  unfold aReadV at h ⊢
  split
  · rfl
  · rename_i hc
    rw [if_neg hc] at h
    unfold readV at h ⊢
    split
    · rfl
    · rename_i hm
      rw [if_neg hm] at h
      exact absurd rfl h
section
variable {w0 w w' : World} {base : Nat} {p : DiskP} {q : RDiskP} {A : Option Addr} {c ga f m gw gx gb k d : Nat} {D D' : DiskV} {x : Do8V} {B : Option Addr} {FV : List Value}
theorem OneAt.size (h : OneAt w0 w base p q A c ga f m gw gx gb D x B k d FV) : base ≤ w.heap.size := Nat.le_trans h.bs h.bel.size
theorem OneAt.both (h : OneAt w0 w base p q A c ga f m gw gx gb D x B k d FV) : Both w base p q D := ⟨⟨A, c, h.hd⟩, h.hr, h.n1, h.n2⟩
theorem OneAt.below (h : OneAt w0 w base p q A c ga f m gw gx gb D x B k d FV) (hb : Below w.heap.size w w') : OneAt w0 w' base p q A c ga f m gw gx gb D x B k d FV :=
  ⟨h.hd.below hb, h.hr.below hb, h.n1, h.n2, Blk.below h.ha hb h.ha.lt, h.xw.below hb h.xw.lt, h.xx.below hb h.xx.lt, h.xb.below hb h.xb.lt, h.bel.trans (hb.mono h.size), h.bs, h.hnf, fun g cs hg => (h.old g cs hg).below hb (h.old g cs hg).lt⟩
/-- Own bytes are as they were. -/
theorem RDiskS.ob8 {b n c' : Nat} {B' : Option Addr} {l : List UInt8} (h : RDiskS w base q D) (ho : OB w b 5 B' n c' l) (kr : RStep base q w w') : OB w' b 5 B' n c' l := by
  obtain ⟨F', hF', tF⟩ := kr.tch
  obtain ⟨_, ⟨c1, b1⟩, ⟨c2, b2⟩, ⟨c3, b3⟩⟩ := h.kinds
  refine ⟨ho.1, own_keep ho.2 hF' (fun g hg hf => ?_)⟩
  have hg' : B'.map (·.block) = some g := by cases B' with | none => simp [Value.ownBlock] at hg | some a => simpa [Value.ownBlock] using hg
  obtain ⟨cs, hbk⟩ := Ow.blk (enc := bv) ho hg'
  rcases tF _ _ _ hf hbk with q1 | q1 | q1 | q1 | q1
  · exact absurd q1 (by decide)
  · exact absurd q1 (by decide)
  · exact hbk.ne_ b1 (by decide) q1
  · exact hbk.ne_ b2 (by decide) q1
  · exact hbk.ne_ b3 (by decide) q1
/-- Behind the first of two calls: the disk has gone on, the document's has not. -/
structure OneMid (w0 w : World) (base : Nat) (p : DiskP) (q : RDiskP) (ga f m gw gx gb : Nat) (D D' : DiskV) (x : Do8V) (B : Option Addr) (k d : Nat) (FV : List Value) : Prop where
  hd : DiskS w base p D'
  hr : RDiskS w base q D
  n1 : q.gi ≠ p.gi
  n2 : q.gi ≠ p.gm
  ha : AreaAt w ga p.d f m
  xw : Blk w gw 84 [.pointer (some ⟨q.d, 0, none⟩), .int .i64 (f : Nat), .int .i64 (m : Nat)]
  xx : Blk w gx 76 (do8C x B k d)
  xb : Blk w gb 33 FV
  bel : Below base w0 w
  bs : base ≤ w0.heap.size
  old : ∀ (g : Nat) (cs : List Value), Blk w0 g 84 cs → Blk w g 84 cs
theorem OneAt.keep (h : OneAt w0 w base p q A c ga f m gw gx gb D x B k d FV) (hd' : DiskS w' base p D') (kp : Keep (foot p A) w w') : OneMid w0 w' base p q ga f m gw gx gb D D' x B k d FV := by
  have st := Step.of_keep h.hd h.size kp
  exact ⟨hd', h.hr.step ⟨A, c, h.hd⟩ st h.n1 h.n2 (by decide) (by decide), h.n1, h.n2, DiskS.area ⟨A, c, h.hd⟩ h.ha st.tch (by decide), h.xw.keep kp h.hnf.1, h.xx.keep kp h.hnf.2.1, h.xb.keep kp h.hnf.2.2, h.bel.trans st.bel, h.bs, fun g cs hg => DiskS.blk ⟨A, c, h.hd⟩ (h.old g cs hg) st.tch (by decide)⟩
theorem OneAt.next (h : OneAt w0 w base p q A c ga f m gw gx gb D x B k d FV) (hN : DiskNext w base p A D' w') : OneMid w0 w' base p q ga f m gw gx gb D D' x B k d FV := by
  obtain ⟨A', c', h1, kp, _⟩ := hN
  exact h.keep ⟨A', c', h1⟩ kp
theorem OneMid.below (h : OneMid w0 w base p q ga f m gw gx gb D D' x B k d FV) (hb : Below w.heap.size w w') : OneMid w0 w' base p q ga f m gw gx gb D D' x B k d FV :=
  ⟨h.hd.below hb, h.hr.below hb, h.n1, h.n2, Blk.below h.ha hb h.ha.lt, h.xw.below hb h.xw.lt, h.xx.below hb h.xx.lt, h.xb.below hb h.xb.lt, h.bel.trans (hb.mono (Nat.le_trans h.bs h.bel.size)), h.bs, fun g cs hg => (h.old g cs hg).below hb (h.old g cs hg).lt⟩
theorem OneMid.size (h : OneMid w0 w base p q ga f m gw gx gb D D' x B k d FV) : base ≤ w.heap.size := Nat.le_trans h.bs h.bel.size
/-- Behind the second one. -/
theorem OneMid.done (h : OneMid w0 w base p q ga f m gw gx gb D D' x B k d FV) (hr : RDiskS w' base q D') (kr : RStep base q w w') : Both w' base p q D' ∧ AreaAt w' ga p.d f m ∧ Below base w0 w' ∧ (∀ (g : Nat) (cs : List Value), Blk w0 g 84 cs → Blk w' g 84 cs) :=
  ⟨⟨h.hd.rstep h.hr kr h.n1 h.n2, hr, h.n1, h.n2⟩, h.hr.blk h.ha kr (by decide), h.bel.trans kr.bel, fun g cs hg => h.hr.blk (h.old g cs hg) kr (by decide)⟩
theorem OneMid.far (h : OneMid w0 w base p q ga f m gw gx gb D D' x B k d FV) (kr : RStep base q w w') : Blk w' gw 84 [.pointer (some ⟨q.d, 0, none⟩), .int .i64 (f : Nat), .int .i64 (m : Nat)] ∧ Blk w' gx 76 (do8C x B k d) ∧ Blk w' gb 33 FV :=
  ⟨h.hr.blk h.xw kr (by decide), h.hr.blk h.xx kr (by decide), h.hr.blk h.xb kr (by decide)⟩
end
section
variable {w w' : World} {base : Nat} {p : DiskP} {q : RDiskP} {ga f m : Nat} {D : DiskV}
set_option maxRecDepth 100000 in
set_option maxHeartbeats 20000000 in
theorem one8_any (h : Both w base p q D) (ha : AreaAt w ga p.d f m) (hs : base ≤ w.heap.size) (hfm : f + m ≤ D.many) (x : Do8V) (B : Option Addr) (k d : Nat) (hr : RB w B k x.b) (hB : 0 < k → ∀ g, B.map (·.block) = some g → g < base) (hk : k ≤ maxLen) (hxm : x.m ≤ 9223372036854775807) (hw : D.waits.length < 1000000) :
    Calls Try.prog 47 #[.pointer (some ⟨ga, 0, none⟩), .agg #[.pointer (some ⟨q.d, 0, none⟩), .int .i64 (f : Nat), .int .i64 (m : Nat)], .pointer (some ⟨p.d, 0, none⟩), .agg #[.int .i64 x.kind, .int .i64 x.n, .int .i64 x.k, .int .i64 x.m, .slice B k d]] w (OneAPost base p q ga f m w (stepA D f m x)) := by
  obtain ⟨A, c, hd⟩ := h.d
  have bA : Below w.heap.size w ((w.alloc (.cells #[.pointer (some ⟨q.d, 0, none⟩), .int .i64 (f : Nat), .int .i64 (m : Nat)] 84)).alloc (.cells #[.int .i64 x.kind, .int .i64 x.n, .int .i64 x.k, .int .i64 x.m, .slice B k d] 76)) := (by (repeat' (first | (with_reducible exact Below.refl _ _) | (with_reducible assumption) | (with_reducible refine Below.drew ?_) | (with_reducible refine below_drewN ?_ _) | (with_reducible refine Below.alloc ?_ ?_ _) | (with_reducible refine Below.setCell ?_ ?_ _) | omega | (simp; done) | (simp; omega))))
  have hfull := full_any B k d x.b _ (hr.below bA (Nat.le_refl _)) hk
  have XW := Lib.hid (show Blk ((w.alloc (.cells #[.pointer (some ⟨q.d, 0, none⟩), .int .i64 (f : Nat), .int .i64 (m : Nat)] 84)).alloc (.cells #[.int .i64 x.kind, .int .i64 x.n, .int .i64 x.k, .int .i64 x.m, .slice B k d] 76)) w.heap.size 84 [.pointer (some ⟨q.d, 0, none⟩), .int .i64 (f : Nat), .int .i64 (m : Nat)] from (Blk.top w rfl rfl).alloc _)
  have XX := Lib.hid (show Blk ((w.alloc (.cells #[.pointer (some ⟨q.d, 0, none⟩), .int .i64 (f : Nat), .int .i64 (m : Nat)] 84)).alloc (.cells #[.int .i64 x.kind, .int .i64 x.n, .int .i64 x.k, .int .i64 x.m, .slice B k d] 76)) (w.heap.size + 1) 76 (do8C x B k d) from Blk.top _ (by simp) rfl)
  have HLT := Lib.hid hd.lt
  have D1 := Lib.hid (hd.below bA)
  have R1 := Lib.hid (h.r.below bA)
  have A1 := Lib.hid (show AreaAt _ ga p.d f m from Blk.below ha bA (Blk.lt ha))
  have BA := Lib.hid bA
  have N1 := Lib.hid h.n1
  have N2 := Lib.hid h.n2
  have low : ∀ {W : World}, Below base w W → RB W B k x.b := fun {W} hb => ⟨hr.1, fun h0 => (hr.2.sameB hb.size (fun b e _ => hb.block b (hB h0 b e))) h0⟩
  have LOW := Lib.hid (fun (W : World) (hb : Below base w W) => low hb)
  have Hi := Lib.hid (zero_of_info zero128).2
  have hz := (zero_of_info zero128).1
  have hlz : Hid ((zerosL.map bv).length = 128) := by show _ = _; simp [zerosL_len]
  have HLF := Lib.hid (fullL_len x.b)
  have hsl : Hid (((fullL x.b).map bv).length = 128) := by show _ = _; rw [List.length_map, fullL_len]
  have hsm := Lib.hid (mem_bv (l := fullL x.b))
  have hD : Hid (stepA D f m x = stepA D f m x) := rfl
  unfold aggB at *
  obtain ⟨Z, hZ⟩ : ∃ Z, zerosL.map bv = Z := ⟨_, rfl⟩
  rw [hZ] at hz hlz
  have HZ := Lib.hid hZ
  obtain ⟨F, hF⟩ : ∃ F, fullL x.b = F := ⟨_, rfl⟩
  rw [hF] at hfull HLF hsl hsm
  have HF := Lib.hid hF
  obtain ⟨FV, hFV⟩ : ∃ FV, F.map bv = FV := ⟨_, rfl⟩
  rw [hFV] at hfull hsl hsm
  have HFV := Lib.hid hFV
  clear h hd bA hFV hF hZ hr ha low
  go_enter Try.func47, Try.ntmps47
  go_upto_region 3 with (first
    | ((go_at_call 19; (with_reducible refine (hfull).mono ?_); rintro e w2 ⟨rfl, hb2⟩); have b2 := BA.out.trans (hb2.mono (show w.heap.size ≤ _ from BA.out.size)); have W2 := Lib.hid (XW.out.below hb2 XW.out.lt); have X2 := Lib.hid (XX.out.below hb2 XX.out.lt); have D2 := Lib.hid (D1.out.below hb2); have R2 := Lib.hid (R1.out.below hb2); have A2 := Lib.hid (show AreaAt w2 ga p.d f m from Blk.below A1.out hb2 (Blk.lt A1.out)); have B2 := Lib.hid b2; have s2 := b2.size; have l2 := X2.out.lt; clear hb2 b2)
    | (refine wpList_store_arr rfl (x := .tmp 9) (y := .tmp 22) rfl rfl rfl (t := 33) (cs := Z) (xs := FV) (Blk.top _ rfl rfl) Hi.out hsl.out (by rw [hlz.out]; omega) hsm.out ?_; intro w3 hb3 hg3 hs3; rw [splice_all _ _ (hlz.out.trans hsl.out.symm)] at hb3; have b3 : Below w2.heap.size w2 w3 := below_of_only ((Below.refl w2.heap.size w2).alloc (Nat.le_refl _) _) hg3 (by first | omega | (simp; done) | (simp; omega)) (by first | omega | (simp; done) | (simp; omega)); have O3 := Lib.hid (show OneAt w w3 base p q A c ga f m w.heap.size (w.heap.size + 1) w2.heap.size D x B k d FV from ⟨D2.out.below b3, R2.out.below b3, N1.out, N2.out, Blk.below A2.out b3 (Blk.lt A2.out), W2.out.below b3 W2.out.lt, X2.out.below b3 X2.out.lt, hb3, (B2.out.mono hs).trans (b3.mono (by omega)), hs, ⟨fun e => by have := HLT.out _ e; omega, fun e => by have := HLT.out _ e; omega, fun e => by have := HLT.out _ e; omega⟩, fun g cs hg => hg.below (B2.out.trans (b3.mono (by omega))) hg.lt⟩); have y30 : w3.cell? ⟨w.heap.size + 1, 0, none⟩ = some (.int .i64 x.kind) := O3.out.xx.cell 0; clear hb3 hg3 b3)
    | fail "no arm")
  clear y30
  have O3b := O3.out
  clear XW XX D1 R1 A1 BA W2 X2 D2 R2 A2 B2 O3 HLT N1 N2
  generalize w2.heap.size = gb at *
  obtain ⟨gx, hgx⟩ : ∃ gx, w.heap.size + 1 = gx := ⟨_, rfl⟩
  rw [hgx] at O3b ⊢
  obtain ⟨gw, hgw⟩ : ∃ gw, w.heap.size = gw := ⟨_, rfl⟩
  rw [hgw] at O3b ⊢
  clear hgx hgw
  refine code_world (fun W => OneAt w W base p q A c ga f m gw gx gb D x B k d FV) O3b ?_
  clear O3b hs3 s2 l2
  intro w4 O4
  have x1 : w4.cell? ⟨gx, 1, none⟩ = some (.int .i64 x.n) := O4.xx.cell 1
  have x2 : w4.cell? ⟨gx, 2, none⟩ = some (.int .i64 x.k) := O4.xx.cell 2
  have x3 : w4.cell? ⟨gx, 3, none⟩ = some (.int .i64 x.m) := O4.xx.cell 3
  have x4 : w4.cell? ⟨gx, 4, none⟩ = some (.slice B k d) := O4.xx.cell 4
  have v0 : w4.cell? ⟨gw, 0, none⟩ = some (.pointer (some ⟨q.d, 0, none⟩)) := O4.xw.cell 0
  have v1 : w4.cell? ⟨gw, 1, none⟩ = some (.int .i64 (f : Nat)) := O4.xw.cell 1
  have v2 : w4.cell? ⟨gw, 2, none⟩ = some (.int .i64 (m : Nat)) := O4.xw.cell 2
  have sz4 := O4.size
  have HO4 := Lib.hid O4
  have OD := Lib.hid (O4.below (Below.drew (Below.refl w4.heap.size w4)))
  clear O4
  by_cases h1 : x.kind = 1
  · have k1 : (x.kind == 1) = true := by rw [h1]; rfl
    have hst : Hid (stepA D f m x = (aWriteV D f m x.n F).1) := by show _ = _; unfold stepA; rw [if_pos h1, HF.out]
    have c1 := awrite_any OD.out.hd OD.out.ha hfm x.n F HLF.out hw OD.out.size
    have c2 := fun {W : World} (hr : RDiskS W base q D) (hs : base ≤ W.heap.size) (hb : RB W (some ⟨gb, 0, none⟩) 128 F) => ra_write hr hs hfm x.n (some ⟨gb, 0, none⟩) 128 F HLF.out hb hw
    unfold aggB at c1
    rw [HFV.out] at c1
    generalize aWriteV D f m x.n F = R at *
    obtain ⟨D', z⟩ := R
    clear h1
    go_wp2_with fail
    refine wp_region_held_drew (S := fun w' => (w'.cell? ⟨gw, 0, none⟩ = some (.pointer (some ⟨q.d, 0, none⟩)) ∧ w'.cell? ⟨gw, 1, none⟩ = some (.int .i64 (f : Nat)) ∧ w'.cell? ⟨gw, 2, none⟩ = some (.int .i64 (m : Nat))) ∧ w'.cell? ⟨gx, 1, none⟩ = some (.int .i64 x.n) ∧ w'.rangeAt gb 0 FV) (by kernel_rfl) ⟨⟨v0, v1, v2⟩, x1, OD.out.xb.range (n := 128) (by rw [List.drop_zero, List.take_of_length_le (by rw [hsl.out]; omega)])⟩ (fun hHeld => ?_)
    refine wpAnyH_take (i := 0) (v := ?_) rfl (by decide +kernel) (by decide +kernel) (by decide +kernel) (fun _ _ _ h => h) (Or.inl ⟨by rfl, ?_⟩) (by assumption) ?_
    rotate_left 1
    · (intro w hSw; (try dsimp only at hSw); go_simp; try (with_reducible rfl))
    try simp only [List.getElem_toArray, List.getElem_cons_zero, List.getElem_cons_succ, Act.put, List.setIfInBounds_toArray, List.set_cons_zero, List.set_cons_succ]
    refine wpAnyH_take (i := 1) (v := ?_) rfl (by decide +kernel) (by decide +kernel) (by decide +kernel) (fun _ _ _ h => h) (Or.inl ⟨by rfl, ?_⟩) (by assumption) ?_
    rotate_left 1
    · (intro w hSw; (try dsimp only at hSw); go_simp; try (with_reducible rfl))
    try simp only [List.getElem_toArray, List.getElem_cons_zero, List.getElem_cons_succ, Act.put, List.setIfInBounds_toArray, List.set_cons_zero, List.set_cons_succ]
    refine wpAnyH_take (i := 2) (v := ?_) rfl (by decide +kernel) (by decide +kernel) (by decide +kernel) (fun _ _ _ h => h) (Or.inl ⟨by rfl, ?_⟩) (by assumption) ?_
    rotate_left 1
    · (intro w hSw; (try dsimp only at hSw); obtain ⟨⟨r0, r1, r2⟩, s1, s2⟩ := hSw; go_simp; rfl)
    try simp only [List.getElem_toArray, List.getElem_cons_zero, List.getElem_cons_succ, Act.put, List.setIfInBounds_toArray, List.set_cons_zero, List.set_cons_succ]
    refine wpAnyH_take (i := 3) (v := _) rfl (by decide +kernel) (by decide +kernel) (by decide +kernel) (fun _ _ _ h => h) (yieldsIf_load_mid (by rfl) _ _ rfl _ _ rfl FV _ (fun _ h => h.2.2) Try.underlying33 rfl (by rw [hsl.out]; exact Hi.out)) (by assumption) ?_
    try simp only [List.getElem_toArray, List.getElem_cons_zero, List.getElem_cons_succ, Act.put, List.setIfInBounds_toArray, List.set_cons_zero, List.set_cons_succ]
    refine wpAnyH_take (i := 5) (v := ?_) rfl (by decide +kernel) (by decide +kernel) (by decide +kernel) (fun _ _ _ h => h) (Or.inl ⟨by rfl, ?_⟩) (by assumption) ?_
    rotate_left 1
    · (intro w hSw; (try dsimp only at hSw); obtain ⟨⟨r0, r1, r2⟩, s1, s2⟩ := hSw; go_simp; rfl)
    try simp only [List.getElem_toArray, List.getElem_cons_zero, List.getElem_cons_succ, Act.put, List.setIfInBounds_toArray, List.set_cons_zero, List.set_cons_succ]
    refine wpAnyH_take (i := 6) (v := ?_) rfl (by decide +kernel) (by decide +kernel) (by decide +kernel) (fun _ _ _ h => h) (Or.inl ⟨by rfl, ?_⟩) (by assumption) ?_
    rotate_left 1
    · (intro w hSw; (try dsimp only at hSw); go_simp; try (with_reducible rfl))
    try simp only [List.getElem_toArray, List.getElem_cons_zero, List.getElem_cons_succ, Act.put, List.setIfInBounds_toArray, List.set_cons_zero, List.set_cons_succ]
    refine wpAnyH_take (i := 7) (v := ?_) rfl (by decide +kernel) (by decide +kernel) (by decide +kernel) (fun _ _ _ h => h) (Or.inl ⟨by rfl, ?_⟩) (by assumption) ?_
    rotate_left 1
    · (intro w hSw; (try dsimp only at hSw); obtain ⟨⟨r0, r1, r2⟩, s1, s2⟩ := hSw; go_simp; rfl)
    try simp only [List.getElem_toArray, List.getElem_cons_zero, List.getElem_cons_succ, Act.put, List.setIfInBounds_toArray, List.set_cons_zero, List.set_cons_succ]
    refine wpAnyH_take (i := 8) (v := ?_) rfl (by decide +kernel) (by decide +kernel) (by decide +kernel) (fun _ _ _ h => h) (Or.inl ⟨by rfl, ?_⟩) (by assumption) ?_
    rotate_left 1
    · (intro w hSw; (try dsimp only at hSw); go_simp; rfl)
    try simp only [List.getElem_toArray, List.getElem_cons_zero, List.getElem_cons_succ, Act.put, List.setIfInBounds_toArray, List.set_cons_zero, List.set_cons_succ]
    refine wpAnyH_ready (rs := [4]) (by decide +kernel) (by simp) ?_
    refine AllReadyH.cons rfl (fun K hK => ?_) AllReadyH.nil
    go_simp
    (go_at_call 40; (with_reducible refine (c1).mono ?_); rintro e w5 ⟨rfl, hN⟩)
    have M5 := OD.out.next hN
    refine hK.out _ _ (⟨⟨M5.xw.cell 0, M5.xw.cell 1, M5.xw.cell 2⟩, M5.xx.cell 1, M5.xb.range (n := 128) (by rw [List.drop_zero, List.take_of_length_le (by rw [hsl.out]; omega)])⟩) (fun hHeld => ?_)
    clear hK K
    try simp only [List.getElem_toArray, List.getElem_cons_zero, List.getElem_cons_succ, Act.put, List.setIfInBounds_toArray, List.set_cons_zero, List.set_cons_succ]
    have hrb5 : RB w5 (some ⟨gb, 0, none⟩) 128 F := by
      have := RB.of_block (l := F) M5.xb (by rw [HFV.out])
      rw [HLF.out] at this
      exact this
    refine wpAnyH_ready (rs := [9]) (by decide +kernel) (by simp) ?_
    refine AllReadyH.cons rfl (fun K hK => ?_) AllReadyH.nil
    go_simp
    (go_at_call 87; (with_reducible refine (c2 M5.hr M5.size hrb5).mono ?_); rintro e w6 ⟨rfl, r6, k6⟩)
    refine hK.out _ _ (⟨⟨(M5.far k6).1.cell 0, (M5.far k6).1.cell 1, (M5.far k6).1.cell 2⟩, (M5.far k6).2.1.cell 1, (M5.far k6).2.2.range (n := 128) (by rw [List.drop_zero, List.take_of_length_le (by rw [hsl.out]; omega)])⟩) (fun hHeld => ?_)
    clear hK K
    try simp only [List.getElem_toArray, List.getElem_cons_zero, List.getElem_cons_succ, Act.put, List.setIfInBounds_toArray, List.set_cons_zero, List.set_cons_succ]
    refine wpAnyH_take (i := 10) (v := ?_) rfl (by decide +kernel) (by decide +kernel) (by decide +kernel) (fun _ _ _ h => h) (Or.inl ⟨by rfl, ?_⟩) (by assumption) ?_
    rotate_left 1
    · (intro w hSw; (try dsimp only at hSw); go_simp; try (with_reducible rfl))
    try simp only [List.getElem_toArray, List.getElem_cons_zero, List.getElem_cons_succ, Act.put, List.setIfInBounds_toArray, List.set_cons_zero, List.set_cons_succ]
    refine wpAnyH_take (i := 11) (v := ?_) rfl (by decide +kernel) (by decide +kernel) (by decide +kernel) (fun _ _ _ h => h) (Or.inl ⟨by rfl, ?_⟩) (by assumption) ?_
    rotate_left 1
    · (intro w hSw; (try dsimp only at hSw); go_simp; try (with_reducible rfl))
    try simp only [List.getElem_toArray, List.getElem_cons_zero, List.getElem_cons_succ, Act.put, List.setIfInBounds_toArray, List.set_cons_zero, List.set_cons_succ]
    clear hrb5
    refine wpAnyH_done (by decide +kernel) ?_ _
    have DN := Lib.hid (M5.done r6 k6)
    clear M5 r6 k6 hN hHeld
    go_wp2
    go_ret
    exact ⟨rfl, by rw [hst.out]; exact DN.out.1, DN.out.2.1, DN.out.2.2⟩
  by_cases h2 : x.kind = 2
  · have k1 : (x.kind == 1) = false := by rw [h2]; rfl
    have k2 : (x.kind == 2) = true := by rw [h2]; rfl
    have hst : Hid (stepA D f m x = (flushV D).1) := by show _ = _; unfold stepA; rw [if_neg h1, if_pos h2]
    have c1 := aflush_any OD.out.hd OD.out.ha
    have c2 := fun {w : World} (hr : RDiskS w base q D) (hs : base ≤ w.heap.size) => r_flush hr hs
    generalize flushV D = R at *
    obtain ⟨D', z⟩ := R
    clear h1 h2
    go_wp2_with fail
    refine wp_region_held_drew (S := fun w' => w'.cell? ⟨gw, 0, none⟩ = some (.pointer (some ⟨q.d, 0, none⟩))) (by kernel_rfl) v0 (fun hHeld => ?_)
    refine wpAnyH_take (i := 0) (v := ?_) rfl (by decide +kernel) (by decide +kernel) (by decide +kernel) (fun _ _ _ h => h) (Or.inl ⟨by rfl, ?_⟩) (by assumption) ?_
    rotate_left 1
    · (intro w hSw; (try dsimp only at hSw); go_simp; try (with_reducible rfl))
    try simp only [List.getElem_toArray, List.getElem_cons_zero, List.getElem_cons_succ, Act.put, List.setIfInBounds_toArray, List.set_cons_zero, List.set_cons_succ]
    refine wpAnyH_take (i := 2) (v := ?_) rfl (by decide +kernel) (by decide +kernel) (by decide +kernel) (fun _ _ _ h => h) (Or.inl ⟨by rfl, ?_⟩) (by assumption) ?_
    rotate_left 1
    · (intro w hSw; (try dsimp only at hSw); go_simp; try (with_reducible rfl))
    try simp only [List.getElem_toArray, List.getElem_cons_zero, List.getElem_cons_succ, Act.put, List.setIfInBounds_toArray, List.set_cons_zero, List.set_cons_succ]
    refine wpAnyH_take (i := 3) (v := ?_) rfl (by decide +kernel) (by decide +kernel) (by decide +kernel) (fun _ _ _ h => h) (Or.inl ⟨by rfl, ?_⟩) (by assumption) ?_
    rotate_left 1
    · (intro w hSw; (try dsimp only at hSw); go_simp; rfl)
    try simp only [List.getElem_toArray, List.getElem_cons_zero, List.getElem_cons_succ, Act.put, List.setIfInBounds_toArray, List.set_cons_zero, List.set_cons_succ]
    refine wpAnyH_ready (rs := [1]) (by decide +kernel) (by simp) ?_
    refine AllReadyH.cons rfl (fun K hK => ?_) AllReadyH.nil
    go_simp
    (go_at_call 43; (with_reducible refine (c1).mono ?_); rintro e w5 ⟨rfl, hN⟩)
    have M5 := OD.out.next hN
    refine hK.out _ _ (M5.xw.cell 0) (fun hHeld => ?_)
    clear hK K
    try simp only [List.getElem_toArray, List.getElem_cons_zero, List.getElem_cons_succ, Act.put, List.setIfInBounds_toArray, List.set_cons_zero, List.set_cons_succ]
    refine wpAnyH_ready (rs := [4]) (by decide +kernel) (by simp) ?_
    refine AllReadyH.cons rfl (fun K hK => ?_) AllReadyH.nil
    go_simp
    (go_at_call 74; (with_reducible refine (c2 M5.hr M5.size).mono ?_); rintro e w6 ⟨rfl, r6, k6⟩)
    refine hK.out _ _ ((M5.far k6).1.cell 0) (fun hHeld => ?_)
    clear hK K
    try simp only [List.getElem_toArray, List.getElem_cons_zero, List.getElem_cons_succ, Act.put, List.setIfInBounds_toArray, List.set_cons_zero, List.set_cons_succ]
    refine wpAnyH_take (i := 5) (v := ?_) rfl (by decide +kernel) (by decide +kernel) (by decide +kernel) (fun _ _ _ h => h) (Or.inl ⟨by rfl, ?_⟩) (by assumption) ?_
    rotate_left 1
    · (intro w hSw; (try dsimp only at hSw); go_simp; try (with_reducible rfl))
    try simp only [List.getElem_toArray, List.getElem_cons_zero, List.getElem_cons_succ, Act.put, List.setIfInBounds_toArray, List.set_cons_zero, List.set_cons_succ]
    refine wpAnyH_take (i := 6) (v := ?_) rfl (by decide +kernel) (by decide +kernel) (by decide +kernel) (fun _ _ _ h => h) (Or.inl ⟨by rfl, ?_⟩) (by assumption) ?_
    rotate_left 1
    · (intro w hSw; (try dsimp only at hSw); go_simp; try (with_reducible rfl))
    try simp only [List.getElem_toArray, List.getElem_cons_zero, List.getElem_cons_succ, Act.put, List.setIfInBounds_toArray, List.set_cons_zero, List.set_cons_succ]
    refine wpAnyH_done (by decide +kernel) ?_ _
    have DN := Lib.hid (M5.done r6 k6)
    clear M5 r6 k6 hN hHeld
    go_wp2
    go_ret
    exact ⟨rfl, by rw [hst.out]; exact DN.out.1, DN.out.2.1, DN.out.2.2⟩
  have k1 : (x.kind == 1) = false := by rw [beq_eq_false_iff_ne]; exact h1
  have k2 : (x.kind == 2) = false := by rw [beq_eq_false_iff_ne]; exact h2
  by_cases h3 : x.kind = 3
  · have k3 : (x.kind == 3) = true := by rw [h3]; rfl
    have hst : Hid (stepA D f m x = (aReadV D f m x.n).1) := by show _ = _; unfold stepA; rw [if_neg h1, if_neg h2, if_pos h3]
    have c1 := aread_any HO4.out.hd HO4.out.ha hfm x.n
    have c2 := fun {W : World} (hr : RDiskS W base q D) (hs : base ≤ W.heap.size) => ra_read hr hs hfm x.n
    have hSl := aReadV_len (f := f) (m := m) HO4.out.hd.ok x.n
    have hSz := aReadV_zero D f m x.n
    generalize aReadV D f m x.n = R at *
    obtain ⟨D', S, er⟩ := R
    simp only at c1 hSl hSz hst
    clear h1 h2 h3
    by_cases he : er = 0
    · subst he
      have c3 := fun {W : World} (hr : RDiskS W base q D) (hs : base ≤ W.heap.size) => (c2 hr hs).mono (fun e w' hp => (show ∃ B c', e = .returned (.tuple #[.slice B 128 c', .int .i64 0]) ∧ RB w' B 128 S ∧ RDiskS w' base q D' ∧ RStep base q W w' from by
        obtain ⟨B9, k9, c9, e1, _, e3, e4, e5⟩ := hp
        obtain ⟨rfl, _, _, q4⟩ := e3 rfl
        exact ⟨B9, c9, e1, q4.1, e4, e5⟩))
      have hsl2 := Lib.hid (show (S.map bv).length = 128 by rw [List.length_map]; exact hSl)
      have hsm2 := Lib.hid (mem_bv (l := S))
      have HSL := Lib.hid hSl
      unfold aggB at c1
      obtain ⟨SV, hSV⟩ : ∃ SV, S.map bv = SV := ⟨_, rfl⟩
      rw [hSV] at c1 hsl2 hsm2
      have HSV := Lib.hid hSV
      clear hSV hSl hSz c2
      go_wp2_with (first
        | ((go_at_call 85; (with_reducible refine (c1).mono ?_); rintro e w5 ⟨rfl, dd5, kp5⟩); have M5 := Lib.hid (HO4.out.keep ⟨A, c, dd5⟩ kp5); have s5 := M5.out.size; clear dd5 kp5)
        | (refine wpList_store_arr rfl (x := .tmp 10) (y := .tmp 53) rfl rfl rfl (t := 33) (cs := Z) (xs := SV) (Blk.top _ rfl rfl) Hi.out hsl2.out (by rw [hlz.out]; omega) hsm2.out ?_; intro w6 hb6 hg6 hs6; rw [splice_all _ _ (hlz.out.trans hsl2.out.symm)] at hb6; have b6 : Below w5.heap.size w5 w6 := below_of_only ((Below.refl w5.heap.size w5).alloc (Nat.le_refl _) _) hg6 (by first | omega | (simp; done) | (simp; omega)) (by first | omega | (simp; done) | (simp; omega)); have M6 := Lib.hid (M5.out.below b6); have HB6 := Lib.hid hb6; have u0 : w6.cell? ⟨gw, 0, none⟩ = some (.pointer (some ⟨q.d, 0, none⟩)) := M6.out.xw.cell 0; have u1 : w6.cell? ⟨gw, 1, none⟩ = some (.int .i64 (f : Nat)) := M6.out.xw.cell 1; have u2 : w6.cell? ⟨gw, 2, none⟩ = some (.int .i64 (m : Nat)) := M6.out.xw.cell 2; have u4 : w6.cell? ⟨gx, 1, none⟩ = some (.int .i64 x.n) := M6.out.xx.cell 1; clear hb6 hg6 b6)
        | ((go_at_call 88; (with_reducible refine (c3 M6.out.hr M6.out.size).mono ?_); rintro e w7 ⟨B7, c7, rfl, hr7, r7, k7⟩); have DN := Lib.hid (M6.out.done r7 k7); have hb7 := M6.out.hr.blk HB6.out k7 (by decide); have hrb7 : RB w7 (some ⟨w5.heap.size, 0, none⟩) 128 S := (by have := RB.of_block (l := S) hb7 (by rw [HSV.out]); rw [HSL.out] at this; exact this); have hsame := same_any (some ⟨w5.heap.size, 0, none⟩) B7 128 128 128 c7 S S w7 hrb7 hr7 (by unfold maxLen; omega); rw [decide_eq_true rfl] at hsame; clear r7 k7 hr7 hb7 hrb7)
        | ((go_at_call 24; (with_reducible refine (hsame).mono ?_); rintro e w8 ⟨rfl, q8, rfl⟩))
        | fail "no arm")
      go_ret
      have bq : Below w7.heap.size w7 (w7.drewN q8) := below_drewN (Below.refl _ _) q8
      exact ⟨rfl, by rw [hst.out]; exact ⟨DN.out.1.d.below bq, DN.out.1.r.below bq, DN.out.1.n1, DN.out.1.n2⟩, Blk.below DN.out.2.1 bq (Blk.lt DN.out.2.1), below_drewN DN.out.2.2.1 q8, fun g cs hg => Blk.drewN (DN.out.2.2.2 g cs hg) q8⟩
    · have hS0 := hSz he
      subst hS0
      have hne : (er != 0) = true := by rw [bne_iff_ne]; exact he
      have c3 := fun {W : World} (hr : RDiskS W base q D) (hs : base ≤ W.heap.size) => (c2 hr hs).mono (fun e w' hp => (show e = .returned (.tuple #[.slice none 0 0, .int .i64 er]) ∧ RDiskS w' base q D' ∧ RStep base q W w' from by
        obtain ⟨B9, k9, c9, e1, e2, _, e4, e5⟩ := hp
        obtain ⟨rfl, rfl, rfl⟩ := e2 he
        exact ⟨e1, e4, e5⟩))
      have heq := eqZeros
      have hzm := Lib.hid (mem_bv (l := zerosL))
      unfold aggB at c1
      rw [HZ.out] at c1 heq hzm
      clear hSl hSz c2 he
      go_wp2_with (first
        | ((go_at_call 85; (with_reducible refine (c1).mono ?_); rintro e w5 ⟨rfl, dd5, kp5⟩); have M5 := Lib.hid (HO4.out.keep ⟨A, c, dd5⟩ kp5); have s5 := M5.out.size; clear dd5 kp5)
        | (refine wpList_store_arr rfl (x := .tmp 10) (y := .tmp 53) rfl rfl rfl (t := 33) (cs := Z) (xs := Z) (Blk.top _ rfl rfl) Hi.out hlz.out (by rw [hlz.out]; omega) hzm.out ?_; intro w6 hb6 hg6 hs6; rw [splice_all _ _ rfl] at hb6; have b6 : Below w5.heap.size w5 w6 := below_of_only ((Below.refl w5.heap.size w5).alloc (Nat.le_refl _) _) hg6 (by first | omega | (simp; done) | (simp; omega)) (by first | omega | (simp; done) | (simp; omega)); have M6 := Lib.hid (M5.out.below b6); have HB6 := Lib.hid hb6; have u0 : w6.cell? ⟨gw, 0, none⟩ = some (.pointer (some ⟨q.d, 0, none⟩)) := M6.out.xw.cell 0; have u1 : w6.cell? ⟨gw, 1, none⟩ = some (.int .i64 (f : Nat)) := M6.out.xw.cell 1; have u2 : w6.cell? ⟨gw, 2, none⟩ = some (.int .i64 (m : Nat)) := M6.out.xw.cell 2; have u4 : w6.cell? ⟨gx, 1, none⟩ = some (.int .i64 x.n) := M6.out.xx.cell 1; clear hb6 hg6 b6)
        | ((go_at_call 88; (with_reducible refine (c3 M6.out.hr M6.out.size).mono ?_); rintro e w7 ⟨rfl, r7, k7⟩); have DN := Lib.hid (M6.out.done r7 k7); have hb7 := M6.out.hr.blk HB6.out k7 (by decide); have HB7 := Lib.hid hb7; clear r7 k7 hb7)
        | (refine wpList_load_arr rfl (x := .tmp 10) rfl rfl HB7.out Try.underlying33 Hi.out hlz.out (by rw [List.drop_zero, List.take_of_length_le (by rw [hlz.out]; omega)]) ?_)
        | fail "no arm")
      go_ret
      exact ⟨rfl, by rw [hst.out]; exact DN.out.1, DN.out.2.1, DN.out.2.2⟩
  have k3 : (x.kind == 3) = false := by rw [beq_eq_false_iff_ne]; exact h3
  by_cases h4 : x.kind = 4
  · have k4 : (x.kind == 4) = true := by rw [h4]; rfl
    have hst : Hid (stepA D f m x = (aWriteV D f m x.n zerosL).1) := by show _ = _; unfold stepA; rw [if_neg h1, if_neg h2, if_neg h3, if_pos h4]
    have c1 := fun {W : World} (O : OneAt w W base p q A c ga f m gw gx gb D x B k d FV) => awipe_any O.hd O.ha hfm x.n hw O.size
    have c2 := fun {W : World} (hr : RDiskS W base q D) (hs : base ≤ W.heap.size) (g : Nat) (hb : RB W (some ⟨g, 0, none⟩) 128 zerosL) => ra_write hr hs hfm x.n (some ⟨g, 0, none⟩) 128 zerosL zerosL_len hb hw
    generalize aWriteV D f m x.n zerosL = R at *
    obtain ⟨D', z⟩ := R
    have hmk : ∀ W : World, (Instr.makeSlice 23 (.int .i64 128) (.int .i64 128)).run Try.prog W = .ok (.slice (some ⟨W.heap.size, 0, none⟩) 128 128) (W.alloc (.cells (madeCells (Value.int .u8 0).cells 128) 5)) := run_make_one elemB 128 (by omega) (by omega)
    have hmc : (madeCells (Value.int .u8 0).cells 128) = (zerosL.map bv).toArray := by kernel_rfl
    rw [hmc, HZ.out] at hmk
    have HNF := Lib.hid (show ¬ foot p A w4.heap.size from fun e => by have := HO4.out.hd.lt _ e; omega)
    have OM := Lib.hid (HO4.out.below (((Below.refl w4.heap.size w4).alloc (Nat.le_refl _) (.cells Z.toArray 5)).drew))
    have HBZ := Lib.hid (show Blk ((w4.alloc (.cells Z.toArray 5)).drew) w4.heap.size 5 Z from (Blk.top w4 rfl rfl).drew)
    have rbz : ∀ {W : World} {g : Nat}, Blk W g 5 Z → RB W (some ⟨g, 0, none⟩) 128 zerosL := fun {W g} hb => (by have := RB.of_block (l := zerosL) hb (by rw [HZ.out]); rw [zerosL_len] at this; exact this)
    have RBZ := Lib.hid (fun (W : World) (g : Nat) (hb : Blk W g 5 Z) => rbz hb)
    clear rbz
    clear h1 h2 h3 h4 hmc
    go_wp2_with fail
    refine wp_region_held_drew (S := fun w' => (w'.cell? ⟨gw, 0, none⟩ = some (.pointer (some ⟨q.d, 0, none⟩)) ∧ w'.cell? ⟨gw, 1, none⟩ = some (.int .i64 (f : Nat)) ∧ w'.cell? ⟨gw, 2, none⟩ = some (.int .i64 (m : Nat))) ∧ w'.cell? ⟨gx, 1, none⟩ = some (.int .i64 x.n)) (by kernel_rfl) ⟨⟨v0, v1, v2⟩, x1⟩ (fun hHeld => ?_)
    refine wpAnyH_take (i := 0) (v := ?_) rfl (by decide +kernel) (by decide +kernel) (by decide +kernel) (fun _ _ _ h => h) (Or.inl ⟨by rfl, ?_⟩) (by assumption) ?_
    rotate_left 1
    · (intro w hSw; (try dsimp only at hSw); go_simp; try (with_reducible rfl))
    try simp only [List.getElem_toArray, List.getElem_cons_zero, List.getElem_cons_succ, Act.put, List.setIfInBounds_toArray, List.set_cons_zero, List.set_cons_succ]
    refine wpAnyH_take (i := 1) (v := ?_) rfl (by decide +kernel) (by decide +kernel) (by decide +kernel) (fun _ _ _ h => h) (Or.inl ⟨by rfl, ?_⟩) (by assumption) ?_
    rotate_left 1
    · (intro w hSw; (try dsimp only at hSw); go_simp; try (with_reducible rfl))
    try simp only [List.getElem_toArray, List.getElem_cons_zero, List.getElem_cons_succ, Act.put, List.setIfInBounds_toArray, List.set_cons_zero, List.set_cons_succ]
    refine wpAnyH_take (i := 2) (v := ?_) rfl (by decide +kernel) (by decide +kernel) (by decide +kernel) (fun _ _ _ h => h) (Or.inl ⟨by rfl, ?_⟩) (by assumption) ?_
    rotate_left 1
    · (intro w hSw; (try dsimp only at hSw); obtain ⟨⟨r0, r1, r2⟩, s1⟩ := hSw; go_simp; rfl)
    try simp only [List.getElem_toArray, List.getElem_cons_zero, List.getElem_cons_succ, Act.put, List.setIfInBounds_toArray, List.set_cons_zero, List.set_cons_succ]
    refine wpAnyH_take (i := 4) (v := ?_) rfl (by decide +kernel) (by decide +kernel) (by decide +kernel) (fun _ _ _ h => h) (Or.inl ⟨by rfl, ?_⟩) (by assumption) ?_
    rotate_left 1
    · (intro w hSw; (try dsimp only at hSw); obtain ⟨⟨r0, r1, r2⟩, s1⟩ := hSw; go_simp; rfl)
    try simp only [List.getElem_toArray, List.getElem_cons_zero, List.getElem_cons_succ, Act.put, List.setIfInBounds_toArray, List.set_cons_zero, List.set_cons_succ]
    refine wpAnyH_take (i := 5) (v := ?_) rfl (by decide +kernel) (by decide +kernel) (by decide +kernel) (fun _ _ _ h => h) (Or.inl ⟨by rfl, ?_⟩) (by assumption) ?_
    rotate_left 1
    · (intro w hSw; (try dsimp only at hSw); go_simp; try (with_reducible rfl))
    try simp only [List.getElem_toArray, List.getElem_cons_zero, List.getElem_cons_succ, Act.put, List.setIfInBounds_toArray, List.set_cons_zero, List.set_cons_succ]
    refine wpAnyH_take (i := 6) (v := ?_) rfl (by decide +kernel) (by decide +kernel) (by decide +kernel) (fun _ _ _ h => h) (Or.inl ⟨by rfl, ?_⟩) (by assumption) ?_
    rotate_left 1
    · (intro w hSw; (try dsimp only at hSw); obtain ⟨⟨r0, r1, r2⟩, s1⟩ := hSw; go_simp; rfl)
    try simp only [List.getElem_toArray, List.getElem_cons_zero, List.getElem_cons_succ, Act.put, List.setIfInBounds_toArray, List.set_cons_zero, List.set_cons_succ]
    refine wpAnyH_ready (rs := [3, 7]) (by decide +kernel) (by simp) ?_
    refine AllReadyH.cons rfl (fun K hK => ?_) (AllReadyH.cons rfl (fun K hK => ?_) AllReadyH.nil)
    · go_simp
      (go_at_call 41; (with_reducible refine (c1 OD.out).mono ?_); rintro e w5 ⟨rfl, hN⟩)
      have M5 := OD.out.next hN
      refine hK.out _ _ (⟨⟨M5.xw.cell 0, M5.xw.cell 1, M5.xw.cell 2⟩, M5.xx.cell 1⟩) (fun hHeld => ?_)
      clear hK K
      try simp only [List.getElem_toArray, List.getElem_cons_zero, List.getElem_cons_succ, Act.put, List.setIfInBounds_toArray, List.set_cons_zero, List.set_cons_succ]
      refine wpAnyH_ready (rs := [7]) (by decide +kernel) (by simp) ?_
      refine AllReadyH.cons rfl (fun K hK => ?_) AllReadyH.nil
      go_simp
      have M6 := M5.below ((Below.refl w5.heap.size w5).alloc (Nat.le_refl _) (.cells Z.toArray 5))
      have hrb := RBZ.out _ _ (Blk.top (g := w5.heap.size) (t := 5) (cs := Z) w5 rfl rfl)
      refine hK.out _ _ (⟨⟨M6.xw.cell 0, M6.xw.cell 1, M6.xw.cell 2⟩, M6.xx.cell 1⟩) (fun hHeld => ?_)
      clear hK K
      try simp only [List.getElem_toArray, List.getElem_cons_zero, List.getElem_cons_succ, Act.put, List.setIfInBounds_toArray, List.set_cons_zero, List.set_cons_succ]
      refine wpAnyH_ready (rs := [8]) (by decide +kernel) (by simp) ?_
      refine AllReadyH.cons rfl (fun K hK => ?_) AllReadyH.nil
      go_simp
      (go_at_call 87; (with_reducible refine (c2 M6.hr M6.size w5.heap.size hrb).mono ?_); rintro e w6 ⟨rfl, r6, k6⟩)
      refine hK.out _ _ (⟨⟨(M6.far k6).1.cell 0, (M6.far k6).1.cell 1, (M6.far k6).1.cell 2⟩, (M6.far k6).2.1.cell 1⟩) (fun hHeld => ?_)
      clear hK K
      try simp only [List.getElem_toArray, List.getElem_cons_zero, List.getElem_cons_succ, Act.put, List.setIfInBounds_toArray, List.set_cons_zero, List.set_cons_succ]
      refine wpAnyH_take (i := 9) (v := ?_) rfl (by decide +kernel) (by decide +kernel) (by decide +kernel) (fun _ _ _ h => h) (Or.inl ⟨by rfl, ?_⟩) (by assumption) ?_
      rotate_left 1
      · (intro w hSw; (try dsimp only at hSw); go_simp; try (with_reducible rfl))
      try simp only [List.getElem_toArray, List.getElem_cons_zero, List.getElem_cons_succ, Act.put, List.setIfInBounds_toArray, List.set_cons_zero, List.set_cons_succ]
      refine wpAnyH_take (i := 10) (v := ?_) rfl (by decide +kernel) (by decide +kernel) (by decide +kernel) (fun _ _ _ h => h) (Or.inl ⟨by rfl, ?_⟩) (by assumption) ?_
      rotate_left 1
      · (intro w hSw; (try dsimp only at hSw); go_simp; try (with_reducible rfl))
      try simp only [List.getElem_toArray, List.getElem_cons_zero, List.getElem_cons_succ, Act.put, List.setIfInBounds_toArray, List.set_cons_zero, List.set_cons_succ]
      clear hrb M5
      refine wpAnyH_done (by decide +kernel) ?_ _
      have DN := Lib.hid (M6.done r6 k6)
      clear M6 r6 k6 hN hHeld
      go_wp2
      go_ret
      exact ⟨rfl, by rw [hst.out]; exact DN.out.1, DN.out.2.1, DN.out.2.2⟩
    · go_simp
      refine hK.out _ _ (⟨⟨OM.out.xw.cell 0, OM.out.xw.cell 1, OM.out.xw.cell 2⟩, OM.out.xx.cell 1⟩) (fun hHeld => ?_)
      clear hK K
      try simp only [List.getElem_toArray, List.getElem_cons_zero, List.getElem_cons_succ, Act.put, List.setIfInBounds_toArray, List.set_cons_zero, List.set_cons_succ]
      refine wpAnyH_ready (rs := [3]) (by decide +kernel) (by simp) ?_
      refine AllReadyH.cons rfl (fun K hK => ?_) AllReadyH.nil
      go_simp
      (go_at_call 41; (with_reducible refine (c1 OM.out).mono ?_); rintro e w5 ⟨rfl, hN⟩)
      have M5 := OM.out.next hN
      have hz5 : Blk w5 w4.heap.size 5 Z := by obtain ⟨_, _, _, kp, _⟩ := hN; exact HBZ.out.keep kp HNF.out
      have hrb := RBZ.out _ _ hz5
      refine hK.out _ _ (⟨⟨M5.xw.cell 0, M5.xw.cell 1, M5.xw.cell 2⟩, M5.xx.cell 1⟩) (fun hHeld => ?_)
      clear hK K
      try simp only [List.getElem_toArray, List.getElem_cons_zero, List.getElem_cons_succ, Act.put, List.setIfInBounds_toArray, List.set_cons_zero, List.set_cons_succ]
      refine wpAnyH_ready (rs := [8]) (by decide +kernel) (by simp) ?_
      refine AllReadyH.cons rfl (fun K hK => ?_) AllReadyH.nil
      go_simp
      (go_at_call 87; (with_reducible refine (c2 M5.hr M5.size w4.heap.size hrb).mono ?_); rintro e w6 ⟨rfl, r6, k6⟩)
      refine hK.out _ _ (⟨⟨(M5.far k6).1.cell 0, (M5.far k6).1.cell 1, (M5.far k6).1.cell 2⟩, (M5.far k6).2.1.cell 1⟩) (fun hHeld => ?_)
      clear hK K
      try simp only [List.getElem_toArray, List.getElem_cons_zero, List.getElem_cons_succ, Act.put, List.setIfInBounds_toArray, List.set_cons_zero, List.set_cons_succ]
      refine wpAnyH_take (i := 9) (v := ?_) rfl (by decide +kernel) (by decide +kernel) (by decide +kernel) (fun _ _ _ h => h) (Or.inl ⟨by rfl, ?_⟩) (by assumption) ?_
      rotate_left 1
      · (intro w hSw; (try dsimp only at hSw); go_simp; try (with_reducible rfl))
      try simp only [List.getElem_toArray, List.getElem_cons_zero, List.getElem_cons_succ, Act.put, List.setIfInBounds_toArray, List.set_cons_zero, List.set_cons_succ]
      refine wpAnyH_take (i := 10) (v := ?_) rfl (by decide +kernel) (by decide +kernel) (by decide +kernel) (fun _ _ _ h => h) (Or.inl ⟨by rfl, ?_⟩) (by assumption) ?_
      rotate_left 1
      · (intro w hSw; (try dsimp only at hSw); go_simp; try (with_reducible rfl))
      try simp only [List.getElem_toArray, List.getElem_cons_zero, List.getElem_cons_succ, Act.put, List.setIfInBounds_toArray, List.set_cons_zero, List.set_cons_succ]
      clear hrb hz5
      refine wpAnyH_done (by decide +kernel) ?_ _
      have DN := Lib.hid (M5.done r6 k6)
      clear M5 r6 k6 hN hHeld
      go_wp2
      go_ret
      exact ⟨rfl, by rw [hst.out]; exact DN.out.1, DN.out.2.1, DN.out.2.2⟩
  have k4 : (x.kind == 4) = false := by rw [beq_eq_false_iff_ne]; exact h4
  by_cases h5 : x.kind = 5
  · have k5 : (x.kind == 5) = true := by rw [h5]; rfl
    have hst : Hid (stepA D f m x = (aPutV D f m x.n x.k x.m x.b).1) := by show _ = _; unfold stepA; rw [if_neg h1, if_neg h2, if_neg h3, if_neg h4, if_pos h5]
    have c1 := aput_any (d := d) OD.out.hd OD.out.ha hfm x.n x.k x.m B k x.b (LOW.out _ OD.out.bel) hk hxm hw OD.out.size
    have c2 := fun {W : World} (hr : RDiskS W base q D) (hs : base ≤ W.heap.size) (hb : RB W B k x.b) => ra_put (d := d) hr hs hfm x.n x.k x.m B k x.b hb hk hxm hw
    generalize aPutV D f m x.n x.k x.m x.b = R at *
    obtain ⟨D', z⟩ := R
    clear h1 h2 h3 h4 h5
    go_wp2_with fail
    refine wp_region_held_drew (S := fun w' => (w'.cell? ⟨gw, 0, none⟩ = some (.pointer (some ⟨q.d, 0, none⟩)) ∧ w'.cell? ⟨gw, 1, none⟩ = some (.int .i64 (f : Nat)) ∧ w'.cell? ⟨gw, 2, none⟩ = some (.int .i64 (m : Nat))) ∧ w'.cell? ⟨gx, 1, none⟩ = some (.int .i64 x.n) ∧ w'.cell? ⟨gx, 2, none⟩ = some (.int .i64 x.k) ∧ w'.cell? ⟨gx, 3, none⟩ = some (.int .i64 x.m) ∧ w'.cell? ⟨gx, 4, none⟩ = some (.slice B k d)) (by kernel_rfl) ⟨⟨v0, v1, v2⟩, x1, x2, x3, x4⟩ (fun hHeld => ?_)
    refine wpAnyH_take (i := 0) (v := ?_) rfl (by decide +kernel) (by decide +kernel) (by decide +kernel) (fun _ _ _ h => h) (Or.inl ⟨by rfl, ?_⟩) (by assumption) ?_
    rotate_left 1
    · (intro w hSw; (try dsimp only at hSw); go_simp; try (with_reducible rfl))
    try simp only [List.getElem_toArray, List.getElem_cons_zero, List.getElem_cons_succ, Act.put, List.setIfInBounds_toArray, List.set_cons_zero, List.set_cons_succ]
    refine wpAnyH_take (i := 1) (v := ?_) rfl (by decide +kernel) (by decide +kernel) (by decide +kernel) (fun _ _ _ h => h) (Or.inl ⟨by rfl, ?_⟩) (by assumption) ?_
    rotate_left 1
    · (intro w hSw; (try dsimp only at hSw); go_simp; try (with_reducible rfl))
    try simp only [List.getElem_toArray, List.getElem_cons_zero, List.getElem_cons_succ, Act.put, List.setIfInBounds_toArray, List.set_cons_zero, List.set_cons_succ]
    refine wpAnyH_take (i := 2) (v := ?_) rfl (by decide +kernel) (by decide +kernel) (by decide +kernel) (fun _ _ _ h => h) (Or.inl ⟨by rfl, ?_⟩) (by assumption) ?_
    rotate_left 1
    · (intro w hSw; (try dsimp only at hSw); obtain ⟨⟨r0, r1, r2⟩, s1, s2, s3, s4⟩ := hSw; go_simp; rfl)
    try simp only [List.getElem_toArray, List.getElem_cons_zero, List.getElem_cons_succ, Act.put, List.setIfInBounds_toArray, List.set_cons_zero, List.set_cons_succ]
    refine wpAnyH_take (i := 3) (v := ?_) rfl (by decide +kernel) (by decide +kernel) (by decide +kernel) (fun _ _ _ h => h) (Or.inl ⟨by rfl, ?_⟩) (by assumption) ?_
    rotate_left 1
    · (intro w hSw; (try dsimp only at hSw); go_simp; try (with_reducible rfl))
    try simp only [List.getElem_toArray, List.getElem_cons_zero, List.getElem_cons_succ, Act.put, List.setIfInBounds_toArray, List.set_cons_zero, List.set_cons_succ]
    refine wpAnyH_take (i := 4) (v := ?_) rfl (by decide +kernel) (by decide +kernel) (by decide +kernel) (fun _ _ _ h => h) (Or.inl ⟨by rfl, ?_⟩) (by assumption) ?_
    rotate_left 1
    · (intro w hSw; (try dsimp only at hSw); obtain ⟨⟨r0, r1, r2⟩, s1, s2, s3, s4⟩ := hSw; go_simp; rfl)
    try simp only [List.getElem_toArray, List.getElem_cons_zero, List.getElem_cons_succ, Act.put, List.setIfInBounds_toArray, List.set_cons_zero, List.set_cons_succ]
    refine wpAnyH_take (i := 5) (v := ?_) rfl (by decide +kernel) (by decide +kernel) (by decide +kernel) (fun _ _ _ h => h) (Or.inl ⟨by rfl, ?_⟩) (by assumption) ?_
    rotate_left 1
    · (intro w hSw; (try dsimp only at hSw); go_simp; try (with_reducible rfl))
    try simp only [List.getElem_toArray, List.getElem_cons_zero, List.getElem_cons_succ, Act.put, List.setIfInBounds_toArray, List.set_cons_zero, List.set_cons_succ]
    refine wpAnyH_take (i := 6) (v := ?_) rfl (by decide +kernel) (by decide +kernel) (by decide +kernel) (fun _ _ _ h => h) (Or.inl ⟨by rfl, ?_⟩) (by assumption) ?_
    rotate_left 1
    · (intro w hSw; (try dsimp only at hSw); obtain ⟨⟨r0, r1, r2⟩, s1, s2, s3, s4⟩ := hSw; go_simp; rfl)
    try simp only [List.getElem_toArray, List.getElem_cons_zero, List.getElem_cons_succ, Act.put, List.setIfInBounds_toArray, List.set_cons_zero, List.set_cons_succ]
    refine wpAnyH_take (i := 7) (v := ?_) rfl (by decide +kernel) (by decide +kernel) (by decide +kernel) (fun _ _ _ h => h) (Or.inl ⟨by rfl, ?_⟩) (by assumption) ?_
    rotate_left 1
    · (intro w hSw; (try dsimp only at hSw); go_simp; try (with_reducible rfl))
    try simp only [List.getElem_toArray, List.getElem_cons_zero, List.getElem_cons_succ, Act.put, List.setIfInBounds_toArray, List.set_cons_zero, List.set_cons_succ]
    refine wpAnyH_take (i := 8) (v := ?_) rfl (by decide +kernel) (by decide +kernel) (by decide +kernel) (fun _ _ _ h => h) (Or.inl ⟨by rfl, ?_⟩) (by assumption) ?_
    rotate_left 1
    · (intro w hSw; (try dsimp only at hSw); obtain ⟨⟨r0, r1, r2⟩, s1, s2, s3, s4⟩ := hSw; go_simp; rfl)
    try simp only [List.getElem_toArray, List.getElem_cons_zero, List.getElem_cons_succ, Act.put, List.setIfInBounds_toArray, List.set_cons_zero, List.set_cons_succ]
    refine wpAnyH_take (i := 10) (v := ?_) rfl (by decide +kernel) (by decide +kernel) (by decide +kernel) (fun _ _ _ h => h) (Or.inl ⟨by rfl, ?_⟩) (by assumption) ?_
    rotate_left 1
    · (intro w hSw; (try dsimp only at hSw); obtain ⟨⟨r0, r1, r2⟩, s1, s2, s3, s4⟩ := hSw; go_simp; rfl)
    try simp only [List.getElem_toArray, List.getElem_cons_zero, List.getElem_cons_succ, Act.put, List.setIfInBounds_toArray, List.set_cons_zero, List.set_cons_succ]
    refine wpAnyH_take (i := 11) (v := ?_) rfl (by decide +kernel) (by decide +kernel) (by decide +kernel) (fun _ _ _ h => h) (Or.inl ⟨by rfl, ?_⟩) (by assumption) ?_
    rotate_left 1
    · (intro w hSw; (try dsimp only at hSw); go_simp; try (with_reducible rfl))
    try simp only [List.getElem_toArray, List.getElem_cons_zero, List.getElem_cons_succ, Act.put, List.setIfInBounds_toArray, List.set_cons_zero, List.set_cons_succ]
    refine wpAnyH_take (i := 12) (v := ?_) rfl (by decide +kernel) (by decide +kernel) (by decide +kernel) (fun _ _ _ h => h) (Or.inl ⟨by rfl, ?_⟩) (by assumption) ?_
    rotate_left 1
    · (intro w hSw; (try dsimp only at hSw); obtain ⟨⟨r0, r1, r2⟩, s1, s2, s3, s4⟩ := hSw; go_simp; rfl)
    try simp only [List.getElem_toArray, List.getElem_cons_zero, List.getElem_cons_succ, Act.put, List.setIfInBounds_toArray, List.set_cons_zero, List.set_cons_succ]
    refine wpAnyH_take (i := 13) (v := ?_) rfl (by decide +kernel) (by decide +kernel) (by decide +kernel) (fun _ _ _ h => h) (Or.inl ⟨by rfl, ?_⟩) (by assumption) ?_
    rotate_left 1
    · (intro w hSw; (try dsimp only at hSw); go_simp; try (with_reducible rfl))
    try simp only [List.getElem_toArray, List.getElem_cons_zero, List.getElem_cons_succ, Act.put, List.setIfInBounds_toArray, List.set_cons_zero, List.set_cons_succ]
    refine wpAnyH_take (i := 14) (v := ?_) rfl (by decide +kernel) (by decide +kernel) (by decide +kernel) (fun _ _ _ h => h) (Or.inl ⟨by rfl, ?_⟩) (by assumption) ?_
    rotate_left 1
    · (intro w hSw; (try dsimp only at hSw); obtain ⟨⟨r0, r1, r2⟩, s1, s2, s3, s4⟩ := hSw; go_simp; rfl)
    try simp only [List.getElem_toArray, List.getElem_cons_zero, List.getElem_cons_succ, Act.put, List.setIfInBounds_toArray, List.set_cons_zero, List.set_cons_succ]
    refine wpAnyH_take (i := 15) (v := ?_) rfl (by decide +kernel) (by decide +kernel) (by decide +kernel) (fun _ _ _ h => h) (Or.inl ⟨by rfl, ?_⟩) (by assumption) ?_
    rotate_left 1
    · (intro w hSw; (try dsimp only at hSw); go_simp; try (with_reducible rfl))
    try simp only [List.getElem_toArray, List.getElem_cons_zero, List.getElem_cons_succ, Act.put, List.setIfInBounds_toArray, List.set_cons_zero, List.set_cons_succ]
    refine wpAnyH_take (i := 16) (v := ?_) rfl (by decide +kernel) (by decide +kernel) (by decide +kernel) (fun _ _ _ h => h) (Or.inl ⟨by rfl, ?_⟩) (by assumption) ?_
    rotate_left 1
    · (intro w hSw; (try dsimp only at hSw); obtain ⟨⟨r0, r1, r2⟩, s1, s2, s3, s4⟩ := hSw; go_simp; rfl)
    try simp only [List.getElem_toArray, List.getElem_cons_zero, List.getElem_cons_succ, Act.put, List.setIfInBounds_toArray, List.set_cons_zero, List.set_cons_succ]
    refine wpAnyH_take (i := 17) (v := ?_) rfl (by decide +kernel) (by decide +kernel) (by decide +kernel) (fun _ _ _ h => h) (Or.inl ⟨by rfl, ?_⟩) (by assumption) ?_
    rotate_left 1
    · (intro w hSw; (try dsimp only at hSw); go_simp; try (with_reducible rfl))
    try simp only [List.getElem_toArray, List.getElem_cons_zero, List.getElem_cons_succ, Act.put, List.setIfInBounds_toArray, List.set_cons_zero, List.set_cons_succ]
    refine wpAnyH_take (i := 18) (v := ?_) rfl (by decide +kernel) (by decide +kernel) (by decide +kernel) (fun _ _ _ h => h) (Or.inl ⟨by rfl, ?_⟩) (by assumption) ?_
    rotate_left 1
    · (intro w hSw; (try dsimp only at hSw); obtain ⟨⟨r0, r1, r2⟩, s1, s2, s3, s4⟩ := hSw; go_simp; rfl)
    try simp only [List.getElem_toArray, List.getElem_cons_zero, List.getElem_cons_succ, Act.put, List.setIfInBounds_toArray, List.set_cons_zero, List.set_cons_succ]
    refine wpAnyH_ready (rs := [9]) (by decide +kernel) (by simp) ?_
    refine AllReadyH.cons rfl (fun K hK => ?_) AllReadyH.nil
    go_simp
    (go_at_call 42; (with_reducible refine (c1).mono ?_); rintro e w5 ⟨rfl, hN⟩)
    have M5 := OD.out.next hN
    refine hK.out _ _ (⟨⟨M5.xw.cell 0, M5.xw.cell 1, M5.xw.cell 2⟩, M5.xx.cell 1, M5.xx.cell 2, M5.xx.cell 3, M5.xx.cell 4⟩) (fun hHeld => ?_)
    clear hK K
    try simp only [List.getElem_toArray, List.getElem_cons_zero, List.getElem_cons_succ, Act.put, List.setIfInBounds_toArray, List.set_cons_zero, List.set_cons_succ]
    refine wpAnyH_ready (rs := [19]) (by decide +kernel) (by simp) ?_
    refine AllReadyH.cons rfl (fun K hK => ?_) AllReadyH.nil
    go_simp
    (go_at_call 89; (with_reducible refine (c2 M5.hr M5.size (LOW.out _ M5.bel)).mono ?_); rintro e w6 ⟨rfl, r6, k6⟩)
    refine hK.out _ _ (⟨⟨(M5.far k6).1.cell 0, (M5.far k6).1.cell 1, (M5.far k6).1.cell 2⟩, (M5.far k6).2.1.cell 1, (M5.far k6).2.1.cell 2, (M5.far k6).2.1.cell 3, (M5.far k6).2.1.cell 4⟩) (fun hHeld => ?_)
    clear hK K
    try simp only [List.getElem_toArray, List.getElem_cons_zero, List.getElem_cons_succ, Act.put, List.setIfInBounds_toArray, List.set_cons_zero, List.set_cons_succ]
    refine wpAnyH_take (i := 20) (v := ?_) rfl (by decide +kernel) (by decide +kernel) (by decide +kernel) (fun _ _ _ h => h) (Or.inl ⟨by rfl, ?_⟩) (by assumption) ?_
    rotate_left 1
    · (intro w hSw; (try dsimp only at hSw); go_simp; try (with_reducible rfl))
    try simp only [List.getElem_toArray, List.getElem_cons_zero, List.getElem_cons_succ, Act.put, List.setIfInBounds_toArray, List.set_cons_zero, List.set_cons_succ]
    refine wpAnyH_take (i := 21) (v := ?_) rfl (by decide +kernel) (by decide +kernel) (by decide +kernel) (fun _ _ _ h => h) (Or.inl ⟨by rfl, ?_⟩) (by assumption) ?_
    rotate_left 1
    · (intro w hSw; (try dsimp only at hSw); go_simp; try (with_reducible rfl))
    try simp only [List.getElem_toArray, List.getElem_cons_zero, List.getElem_cons_succ, Act.put, List.setIfInBounds_toArray, List.set_cons_zero, List.set_cons_succ]
    refine wpAnyH_done (by decide +kernel) ?_ _
    have DN := Lib.hid (M5.done r6 k6)
    clear M5 r6 k6 hN hHeld
    go_wp2
    go_ret
    exact ⟨rfl, by rw [hst.out]; exact DN.out.1, DN.out.2.1, DN.out.2.2⟩
  have k5 : (x.kind == 5) = false := by rw [beq_eq_false_iff_ne]; exact h5
  by_cases h6 : x.kind = 6
  · have k6 : (x.kind == 6) = true := by rw [h6]; rfl
    have hst : Hid (stepA D f m x = (aReadV D f m x.n).1) := by show _ = _; unfold stepA; rw [if_neg h1, if_neg h2, if_neg h3, if_neg h4, if_neg h5, if_pos h6]
    have c1 := atake_any HO4.out.hd HO4.out.ha hfm x.n x.k
    have c2 := fun {W : World} (hr : RDiskS W base q D) (hs : base ≤ W.heap.size) => ra_take hr hs hfm x.n x.k
    generalize aTakeV D f m x.n x.k = T at *
    obtain ⟨N, L, er⟩ := T
    generalize (aReadV D f m x.n).1 = D' at *
    simp only at c1
    clear h1 h2 h3 h4 h5 h6
    go_wp2_with (first
      | ((go_at_call 44; (with_reducible refine (c1).mono ?_); rintro e w5 ⟨B5, n5, d5, rfl, o5, dd5, kp5⟩); have M5 := Lib.hid (HO4.out.keep ⟨A, c, dd5⟩ kp5); have O5 := Lib.hid o5; have u0 : w5.cell? ⟨gw, 0, none⟩ = some (.pointer (some ⟨q.d, 0, none⟩)) := M5.out.xw.cell 0; have u1 : w5.cell? ⟨gw, 1, none⟩ = some (.int .i64 (f : Nat)) := M5.out.xw.cell 1; have u2 : w5.cell? ⟨gw, 2, none⟩ = some (.int .i64 (m : Nat)) := M5.out.xw.cell 2; have u4 : w5.cell? ⟨gx, 1, none⟩ = some (.int .i64 x.n) := M5.out.xx.cell 1; have u5 : w5.cell? ⟨gx, 2, none⟩ = some (.int .i64 x.k) := M5.out.xx.cell 2; clear o5 dd5 kp5)
      | ((go_at_call 90; (with_reducible refine (c2 M5.out.hr M5.out.size).mono ?_); rintro e w6 ⟨B6, n6, d6, rfl, hr6, r6, k6⟩); have DN := Lib.hid (M5.out.done r6 k6); have hb6 := M5.out.hr.ob8 O5.out k6; have hcp := hb6.cap; have hsame := same_any B5 B6 n5 n6 d5 d6 L L w6 hb6.rd.rb hr6 (by omega); rw [decide_eq_true rfl] at hsame; clear r6 k6 hr6 hb6)
      | ((go_at_call 24; (with_reducible refine (hsame).mono ?_); rintro e w7 ⟨rfl, q7, rfl⟩))
      | fail "no arm")
    go_ret
    have bq : Below w6.heap.size w6 (w6.drewN q7) := below_drewN (Below.refl _ _) q7
    exact ⟨by first | rfl | exact ret_bool (by simp), by rw [hst.out]; exact ⟨DN.out.1.d.below bq, DN.out.1.r.below bq, DN.out.1.n1, DN.out.1.n2⟩, Blk.below DN.out.2.1 bq (Blk.lt DN.out.2.1), below_drewN DN.out.2.2.1 q7, fun g cs hg => Blk.drewN (DN.out.2.2.2 g cs hg) q7⟩
  have k6 : (x.kind == 6) = false := by rw [beq_eq_false_iff_ne]; exact h6
  by_cases h7 : x.kind = 7
  · have k7 : (x.kind == 7) = true := by rw [h7]; rfl
    have hst : Hid (stepA D f m x = crashV D x.b) := by show _ = _; unfold stepA; rw [if_neg h1, if_neg h2, if_neg h3, if_neg h4, if_neg h5, if_neg h6, if_pos h7]
    have c1 := crash_any HO4.out.hd B k d x.b (LOW.out _ HO4.out.bel) (fun h0 g hg e => (by have := hB h0 g e; have := HO4.out.hd.bs g hg; omega)) hk
    have c2 := fun {W : World} (hr : RDiskS W base q D) (hs : base ≤ W.heap.size) (hb : RB W B k x.b) => r_crash hr hs B k d x.b hb hB hk
    generalize crashV D x.b = D' at *
    clear h1 h2 h3 h4 h5 h6 h7
    go_wp2_with (first
      | ((go_at_call 22; (with_reducible refine (c1).mono ?_); rintro e w5 ⟨rfl, hN⟩); have M5 := Lib.hid (HO4.out.next hN); have u0 : w5.cell? ⟨gw, 0, none⟩ = some (.pointer (some ⟨q.d, 0, none⟩)) := M5.out.xw.cell 0; have u4 : w5.cell? ⟨gx, 4, none⟩ = some (.slice B k d) := M5.out.xx.cell 4; clear hN)
      | ((go_at_call 77; (with_reducible refine (c2 M5.out.hr M5.out.size (LOW.out _ M5.out.bel)).mono ?_); rintro e w6 ⟨rfl, r6, k6⟩); have DN := Lib.hid (M5.out.done r6 k6); clear r6 k6)
      | fail "no arm")
    go_ret
    exact ⟨rfl, by rw [hst.out]; exact DN.out.1, DN.out.2.1, DN.out.2.2⟩
  · have k7 : (x.kind == 7) = false := by rw [beq_eq_false_iff_ne]; exact h7
    have hst : Hid (stepA D f m x = D) := by show _ = _; unfold stepA; rw [if_neg h1, if_neg h2, if_neg h3, if_neg h4, if_neg h5, if_neg h6, if_neg h7]
    clear h1 h2 h3 h4 h5 h6 h7
    go_wp2
    go_ret
    exact ⟨rfl, by rw [hst.out]; exact HO4.out.both, HO4.out.ha, HO4.out.bel, HO4.out.old⟩
end
end Go.Proofs.Ytninidpbchcliaa
