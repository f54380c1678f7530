/- Parts: DiskF. -/
import Derived.Test.YtalmdccgpigppaaPr21
namespace Go.Proofs.Ytalmdccgpigppaa
open Go.RowKit
set_option linter.unusedVariables false
set_option linter.unusedSimpArgs false
section
/-- copy between whole blocks whose elements have several cells. -/
theorem run_copy_all {P : Program} {w : World} {dT sT ty e : TypeId} {size n c c' g g' : Nat} {t t' : TypeId} {cs xs : List Value} (hu : P.underlying dT = some (.slice e)) (hs : (P.info? e).map (·.size) = some size)
    (hg : Blk w g t cs) (hx : Blk w g' t' xs) (hl : cs.length = n * size) (hlx : xs.length = n * size) (h1 : ∀ v ∈ xs, v.oneCell' = true) :
    ∃ w', (Builtin.copy_ #[dT, sT] ty #[.slice (some ⟨g, 0, none⟩) n c, .slice (some ⟨g', 0, none⟩) n c']).run P w = .ok (goInt n) w' ∧ Blk w' g t xs ∧ w.grownBy w' (some g) ∧ w'.heap.size = w.heap.size := by
  have hld := run_loadCells_list (P := P) w ⟨g', 0, none⟩ xs (fun j v hv => by
    have hadd : (⟨g', 0, none⟩ : Addr).add j = ⟨g', j, none⟩ := by unfold Addr.add; split <;> simp_all
    rw [hadd, hx.cell]; exact hv)
  have hst := run_storeCells_at P g 0 t xs 0 cs.toArray w hg (by simp; omega) h1
  refine ⟨w.setRow g (splice cs 0 xs).toArray, ?_, ?_, grown_setRow _, by simp⟩
  · cases hq : P.info? e with
    | none => simp [hq] at hs
    | some i =>
      have hi : i.size = size := by simpa [hq] using hs
      rw [hlx] at hld
      have hst' : (storeCells ⟨g, 0, none⟩ xs).run P w = .ok () (w.setRow g (splice cs 0 xs).toArray) := by simpa [splice] using hst
      simp [Builtin.copy_, run_underlying hu, Builtin.lenOf, Builtin.firstCells, sizeOf, typeInfo, hq, hi, hld, hst']
  · have := hg.setRow (splice cs 0 xs)
    have e := splice_all cs xs (hl.trans hlx.symm)
    rw [e] at this ⊢
    exact this
theorem step_copy_all {P : Program} {w : World} {ops : Array Oper} {o : Oper} {a : Act} {K : Act → World → Prop} {Q : Exit → Act → World → Prop} {E : Prop} {d s : Operand} {dT sT e : TypeId} {size n c c' g g' : Nat} {t t' : TypeId} {cs xs : List Value} (hgd : o.guard = none)
    (ho : o.op = .call { callee := .builtin .copy, args := #[d, s], argTypes := #[dT, sT] }) (hu : P.underlying dT = some (.slice e)) (hs : (P.info? e).map (·.size) = some size)
    (hd : a.eval d = .slice (some ⟨g, 0, none⟩) n c) (hsv : a.eval s = .slice (some ⟨g', 0, none⟩) n c')
    (hg : Blk w g t cs) (hx : Blk w g' t' xs) (hl : cs.length = n * size) (hlx : xs.length = n * size) (h1 : ∀ v ∈ xs, v.oneCell' = true)
    (h : ∀ w', Blk w' g t xs → w.grownBy w' (some g) → w'.heap.size = w.heap.size → K (a.put o.dst (goInt n)) w') :
    if Region.wanted o (yielded ops a.tmps) = true then Oper.wp P o a w K Q else E := by
  have hw : Region.wanted o (yielded ops a.tmps) = true := by simp [Region.wanted, hgd]
  rw [if_pos hw]
  obtain ⟨w', hrun, h2, h3, h4⟩ := run_copy_all (P := P) (sT := sT) (ty := o.type) (c := c) (c' := c') hu hs hg hx hl hlx h1
  unfold Oper.wp
  simp [execOp, ho, resolve, invoke, builtin, hd, hsv, hrun, Result.andThen]
  exact h w' h2 h3 h4
variable {w : World} {base : Nat} {p : DiskP} {A : Option Addr} {c : Nat} {D : DiskV}
theorem mem_boolV {l : List Bool} : ∀ v ∈ l.map boolV, v.oneCell' = true := by
  intro v hv; obtain ⟨x, _, rfl⟩ := List.mem_map.1 hv; rfl
theorem run_slice_h {P : Program} {t e : TypeId} {n : Nat} (hu : P.underlying t = some (.array n e)) (hs : (P.info? e).map (·.size) = some 1) (g o : Nat) (m : Nat) (hn : m ≤ n) (W : World) :
    (Instr.sliceAt t (.pointer (some ⟨g, o, none⟩)) none (some (.int .i64 (m : Int))) none).run P W = .ok (.slice (some ⟨g, o, none⟩) m n) W := by
  have e1 : P.arrayLen t = n := by unfold Program.arrayLen; rw [hu]
  have e2 : P.elem t = e := by unfold Program.elem; rw [hu]
  cases hq : P.info? e with
  | none => simp [hq] at hs
  | some i =>
    have hsz : i.size = 1 := by simpa [hq] using hs
    rw [run_sliceAt_array_h W t ⟨g, o, none⟩ (by rw [e1, e2]; exact hu) .i64 _ (by omega) (by rw [e1]; omega), e2, e1]
    have hso : (sizeOf e).run P W = .ok 1 W := by simp [sizeOf, typeInfo, hq, hsz]
    have hadd : (⟨g, o, none⟩ : Addr).add 0 = ⟨g, o, none⟩ := by simp [Addr.add]
    rw [hso]
    simp [slicedAt, hadd]
theorem RB.keepB {F : Nat → Prop} {w w' : World} {B : Option Addr} {n : Nat} {l : List UInt8} (h : RB w B n l) (k : Keep F w w') (hF : ∀ b, B.map (·.block) = some b → ¬ F b) : RB w' B n l :=
  ⟨h.1, fun hn => by
    obtain ⟨b, o, e, hb, hc⟩ := h.2 hn
    have hs := k.size
    refine ⟨b, o, e, by omega, fun i hi => ?_⟩
    rw [← hc i hi]
    have hbk := k.block b hb (hF b (by rw [e]; rfl))
    unfold World.cell?
    simp only [hbk]⟩
theorem set_same {l : List Bool} {m : Nat} {b : Bool} (hm : m < l.length) (h : l.getD m false = b) : l.set m b = l := by
  rw [List.getD_eq_getElem?_getD, List.getElem?_eq_getElem hm] at h
  have : l[m] = b := h
  rw [← this]
  exact List.set_getElem_self hm
theorem pieceRd {w : World} {g : Nat} {t : TypeId} {V : List Value} {v : Value} {bs : List UInt8} {cz : Nat} (h : Blk w g t V) (hV : V = v :: bs.map bv) (hc : cz ≤ bs.length) : Rd bv w (some ⟨g, 1, none⟩) cz (bs.take cz) :=
  ⟨by rw [List.length_take]; omega, fun _ => ⟨g, 1, rfl, h.lt, fun i hi => by
    rw [h.cell, hV, Nat.add_comm, List.getElem?_cons_succ]
    show (bs.map bv)[i]? = some (((bs.take cz).map bv).getD i undef)
    rw [List.getD_eq_getElem?_getD, List.map_take, List.getElem?_take, if_pos hi, List.getElem?_map, List.getElem?_eq_getElem (by omega)]; rfl⟩⟩
def crD (D : DiskV) (cs : List UInt8) (k : Nat) : DiskV := { D with kept := (crashK D.waits cs (D.kept, D.inuse) k).1, inuse := (crashK D.waits cs (D.kept, D.inuse) k).2 }
def CrPost (w : World) (base : Nat) (p : DiskP) (A : Option Addr) (D' : DiskV) (e : Ending) (w' : World) : Prop := e = .returned (.tuple #[]) ∧ DiskNext w base p A D' w'
theorem CrPost.mk {w' : World} {cs : List UInt8} {k : Nat} (hk : k = min D.waits.length cs.length) (h : DiskAt w' base p none 0 { D with kept := (crashK D.waits cs (D.kept, D.inuse) k).1, inuse := (crashK D.waits cs (D.kept, D.inuse) k).2, waits := [], off := false, cut := -1, now := (crashK D.waits cs (D.kept, D.inuse) k).1, might := (crashK D.waits cs (D.kept, D.inuse) k).2 }) (kp : Keep (foot p A) w w') :
    CrPost w base p A (crashV D cs) (.returned (.tuple #[])) w' := by
  subst hk
  exact ⟨rfl, none, 0, h, kp, fun g e => by cases e⟩
set_option maxRecDepth 100000 in
set_option maxHeartbeats 20000000 in
theorem crash_any (h : DiskAt w base p A c D) (B : Option Addr) (n d : Nat) (cs : List UInt8) (hl : RB w B n cs) (hB : 0 < n → ∀ g, foot p A g → B.map (·.block) ≠ some g) (hnm : n ≤ maxLen) :
    Calls Try.prog 14 #[.pointer (some ⟨p.d, 0, none⟩), .slice B n d] w (CrPost w base p A (crashV D cs)) := by
  have his := isd h
  have c4 : w.cell? ⟨p.d, 4, none⟩ = some (.slice A D.waits.length c) := h.cells.2.2.2.2.1
  have hle := h.ok.few
  have HD := Lib.hid h.ok
  have H0 := Lib.hid h
  have hz := (zero_of_info zeroPiece).1
  have HiP := Lib.hid (zero_of_info zeroPiece).2
  have Hi := Lib.hid (zero_of_info zero128).2
  have HiB : Hid ((Try.prog.info? 4).map (·.size) = some 1) := by show _ = _; kernel_rfl
  have hZl : Hid ((pieceV (0, zerosL)).length = 129) := pieceV_len _ zerosL_len
  have hlen := Lib.hid hl.1
  unfold maxLen at hnm
  clear h
  generalize pieceV (0, zerosL) = Zp at *
  go_enter Try.func14, Try.ntmps14
  go_wp2_with (first
    | (go_at_call 49; (with_reducible refine (his).mono ?_); rintro e w1 ⟨rfl, rfl⟩)
    | fail "no arm")
  go_loopw [4, 5, 6, 15] (fun _ _ _ i wr => ∃ k : Nat, k ≤ D.waits.length ∧ k ≤ n ∧ i = .int .i64 (k : Nat) ∧ DiskAt wr base p A c (crD D cs k) ∧ Keep (foot p A) w wr) (fun _ _ _ i _ => D.waits.length - (intOf i).toNat)
  case atStart => exact ⟨0, by omega, by omega, rfl, H0.out, Keep.refl _ _⟩
  case round =>
    obtain ⟨k, hk, hkn, rfl, hX, kw⟩ := hrel
    by_cases hlt : k < D.waits.length
    · obtain ⟨x1, x2⟩ := pieceAt_ok HD.out hlt
      obtain ⟨ga, cur, hA, hcur, htake, hfoot⟩ := hX.pieces (by show 0 < D.waits.length; omega)
      have hxat := Lib.hid (piece_at (W := D.waits) htake (fun p hp => (HD.out.waits p hp).2) hlt)
      have hVone := Lib.hid (pieceV_one (pieceAt D.waits k))
      have hVl := Lib.hid (pieceV_len (pieceAt D.waits k) x2)
      have hVS : Hid (pieceV (pieceAt D.waits k) = .int .i64 ((pieceAt D.waits k).1 : Int) :: (pieceAt D.waits k).2.map bv) := rfl
      have hnx : Hid (crD D cs (k + 1) = { crD D cs k with kept := splice (crD D cs k).kept ((pieceAt D.waits k).1 * 128) ((pieceAt D.waits k).2.take (min (byteAt cs k) 128)), inuse := if 0 < byteAt cs k then (crD D cs k).inuse.set (pieceAt D.waits k).1 true else (crD D cs k).inuse }) := rfl
      have hm1 : (crD D cs k).many = D.many := rfl
      have hl1 := hX.st.lt
      have hfl := fun g hg => hX.lt g hg
      have HX := Lib.hid hX
      have hks := kw.size
      clear hX htake
      rw [← hm1] at x1
      have HM := Lib.hid hm1
      clear hm1
      subst hA
      by_cases hkn' : k < n
      · have hB := hB (by omega)
        obtain ⟨cb, co, hBe, hcb, hcc⟩ := hl.at_ hkn'
        have hby := byteAt_lt cs k
        have hsm : Hid (((pieceAt D.waits k).2.map bv).length = 128) := by show _ = _; rw [List.length_map]; exact x2
        generalize hV : pieceV (pieceAt D.waits k) = V at *
        generalize hxx : pieceAt D.waits k = x at *
        obtain ⟨m, bs⟩ := x
        simp only at x1 x2 hVS hnx hsm
        have hcrl : Hid ((crD D cs k).waits = D.waits) := rfl
        generalize crD D cs k = F at *
        generalize hyy : byteAt cs k = y at *
        obtain ⟨cz, hcz⟩ : ∃ cz, min y 128 = cz := ⟨_, rfl⟩
        rw [hcz] at hnx
        have hcz1 : cz ≤ 128 := by omega
        have hczy : (0 < cz ↔ 0 < y) := by omega
        have hmin : ∀ w : World, (Builtin.min_ #[3, 3] 3 #[.int .i64 (y : Int), .int .i64 128]).run Try.prog w = .ok (.int .i64 (cz : Int)) w := fun w => (run_min_int2 (P := Try.prog) (w := w) _ _ _ _ _ _).trans (by rw [show (if (128 : Int) < (y : Int) then (128 : Int) else (y : Int)) = (cz : Int) from by split <;> omega])
        have hmI : (m : Int) < F.many := by omega
        have hk2 : (k : Int) < (n : Int) := by omega
        have hb2l := Lib.hid x2
        have hbfar := fun g hg => hB g hg
        have hY := Lib.hid hyy
        have hCZ := Lib.hid hczy
        clear x2 hxx hV hyy hcz hczy c4
        have hcut1 := fun o => run_slice_h (P := Try.prog) Try.underlying128 (by kernel_rfl) p.gk o cz hcz1
        have hcut2 := fun o => run_slice_h (P := Try.prog) Try.underlying128 (by kernel_rfl) wr.heap.size o cz hcz1
        go_wp2_with (first
          | (refine wpList_load_str rfl (x := .tmp 18) rfl rfl hcur Try.underlying130 HiP.out hVl.out hxat.out ?_)
          | (refine wpList_store_arr rfl (x := .tmp 5) (y := .tmp 19) rfl rfl rfl (t := 130) (cs := Zp) (xs := V) (Blk.top _ rfl rfl) HiP.out hVl.out (by rw [hZl.out]; omega) hVone.out ?_; intro w2 hb2 hg2 hs2; rw [splice_all _ _ (hZl.out.trans hVl.out.symm)] at hb2; have H2 := Lib.hid ((HX.out.alloc (.cells Zp.toArray 130)).keep (F := (· = wr.heap.size)) (Keep.one hg2) (fun g hg e => by have := hfl g hg; omega)); have kw2 := Lib.hid (show Keep (foot p (some ⟨ga, 0, none⟩)) w w2 from ((kw.alloc (.cells Zp.toArray 130)).trans (G := (· = wr.heap.size)) (Keep.one hg2) (fun g hg e => by omega))); have HB2 := Lib.hid hb2; have cch : w2.cell? ⟨cb, co + k, none⟩ = some (.int .u8 (y : Int)) := (by obtain ⟨cb', co', e1, e2, e3⟩ := (hl.keepB kw2.out (fun b e hf => hB b hf e)).at_ hkn'; rw [hBe] at e1; injection e1 with e1; injection e1 with e4 e5 _; subst e4 e5; rw [e3, hY.out]); clear hb2)
          | fail "no arm")
        obtain ⟨e0, -, -, -, -, -, -, -, -⟩ := H2.out.cells
        have t0 : w2.cell? ⟨wr.heap.size, 0, none⟩ = some (.int .i64 (m : Int)) := by rw [HB2.out.cell, hVS.out]; rfl
        have hgt1 : wr.heap.size ≠ p.gk := fun e => by have := hfl p.gk (.inr (.inl rfl)); omega
        have hgt2 : wr.heap.size ≠ p.gi := fun e => by have := hfl p.gi (.inr (.inr (.inr (.inl rfl)))); omega
        clear hcur hxat
        refine wp_region_held_drew (S := fun w' => w'.cell? ⟨p.d, 0, none⟩ = some (.slice (some ⟨p.gk, 0, none⟩) F.many F.many) ∧ w'.cell? ⟨wr.heap.size, 0, none⟩ = some (.int .i64 (m : Int))) (by kernel_rfl) ⟨e0, t0⟩ (fun hHeld => ?_)
        clear e0 t0
        refine wpAnyH_take (i := 0) (v := ?_) rfl (by decide +kernel) (by decide +kernel) (by decide +kernel) (fun _ _ _ h => h) (Or.inl ⟨by rfl, ?_⟩) (by assumption) ?_
        rotate_left 1
        · (intro w hSw; (try dsimp only at hSw); go_simp; try (with_reducible rfl))
        try simp only [List.getElem_toArray, List.getElem_cons_zero, List.getElem_cons_succ, Act.put, List.setIfInBounds_toArray, List.set_cons_zero, List.set_cons_succ]
        refine wpAnyH_take (i := 1) (v := ?_) rfl (by decide +kernel) (by decide +kernel) (by decide +kernel) (fun _ _ _ h => h) (Or.inl ⟨by rfl, ?_⟩) (by assumption) ?_
        rotate_left 1
        · (intro w hSw; (try dsimp only at hSw); go_simp; try (with_reducible rfl))
        try simp only [List.getElem_toArray, List.getElem_cons_zero, List.getElem_cons_succ, Act.put, List.setIfInBounds_toArray, List.set_cons_zero, List.set_cons_succ]
        refine wpAnyH_take (i := 2) (v := ?_) rfl (by decide +kernel) (by decide +kernel) (by decide +kernel) (fun _ _ _ h => h) (Or.inl ⟨by rfl, ?_⟩) (by assumption) ?_
        rotate_left 1
        · (intro w hSw; (try dsimp only at hSw); go_simp; try (with_reducible rfl))
        try simp only [List.getElem_toArray, List.getElem_cons_zero, List.getElem_cons_succ, Act.put, List.setIfInBounds_toArray, List.set_cons_zero, List.set_cons_succ]
        refine wpAnyH_take (i := 3) (v := ?_) rfl (by decide +kernel) (by decide +kernel) (by decide +kernel) (fun _ _ _ h => h) (Or.inl ⟨by rfl, ?_⟩) (by assumption) ?_
        rotate_left 1
        · (intro w hSw; (try dsimp only at hSw); obtain ⟨s1, s2⟩ := hSw; go_simp; rfl)
        try simp only [List.getElem_toArray, List.getElem_cons_zero, List.getElem_cons_succ, Act.put, List.setIfInBounds_toArray, List.set_cons_zero, List.set_cons_succ]
        refine wpAnyH_take (i := 4) (v := ?_) rfl (by decide +kernel) (by decide +kernel) (by decide +kernel) (fun _ _ _ h => h) (Or.inl ⟨by rfl, ?_⟩) (by assumption) ?_
        rotate_left 1
        · (intro w hSw; (try dsimp only at hSw); go_simp; try (with_reducible rfl))
        try simp only [List.getElem_toArray, List.getElem_cons_zero, List.getElem_cons_succ, Act.put, List.setIfInBounds_toArray, List.set_cons_zero, List.set_cons_succ]
        refine wpAnyH_take (i := 5) (v := ?_) rfl (by decide +kernel) (by decide +kernel) (by decide +kernel) (fun _ _ _ h => h) (Or.inl ⟨by rfl, ?_⟩) (by assumption) ?_
        rotate_left 1
        · (intro w hSw; (try dsimp only at hSw); obtain ⟨s1, s2⟩ := hSw; go_simp; rfl)
        try simp only [List.getElem_toArray, List.getElem_cons_zero, List.getElem_cons_succ, Act.put, List.setIfInBounds_toArray, List.set_cons_zero, List.set_cons_succ]
        refine wpAnyH_take (i := 6) (v := ?_) rfl (by decide +kernel) (by decide +kernel) (by decide +kernel) (fun _ _ _ h => h) (Or.inl ⟨by rfl, ?_⟩) (by assumption) ?_
        rotate_left 1
        · (intro w hSw; (try dsimp only at hSw); go_simp; try (with_reducible rfl))
        try simp only [List.getElem_toArray, List.getElem_cons_zero, List.getElem_cons_succ, Act.put, List.setIfInBounds_toArray, List.set_cons_zero, List.set_cons_succ]
        refine wpAnyH_take (i := 7) (v := ?_) rfl (by decide +kernel) (by decide +kernel) (by decide +kernel) (fun _ _ _ h => h) (Or.inl ⟨by rfl, ?_⟩) (by assumption) ?_
        rotate_left 1
        · (intro w hSw; (try dsimp only at hSw); go_simp; try (with_reducible rfl))
        try simp only [List.getElem_toArray, List.getElem_cons_zero, List.getElem_cons_succ, Act.put, List.setIfInBounds_toArray, List.set_cons_zero, List.set_cons_succ]
        refine wpAnyH_take (i := 8) (v := ?_) rfl (by decide +kernel) (by decide +kernel) (by decide +kernel) (fun _ _ _ h => h) (Or.inl ⟨by rfl, ?_⟩) (by assumption) ?_
        rotate_left 1
        · (intro w hSw; (try dsimp only at hSw); go_simp; rfl)
        try simp only [List.getElem_toArray, List.getElem_cons_zero, List.getElem_cons_succ, Act.put, List.setIfInBounds_toArray, List.set_cons_zero, List.set_cons_succ]
        refine wpAnyH_take (i := 9) (v := ?_) rfl (by decide +kernel) (by decide +kernel) (by decide +kernel) (fun _ _ _ h => h) (Or.inl ⟨by rfl, ?_⟩) (by assumption) ?_
        rotate_left 1
        · (intro w hSw; (try dsimp only at hSw); go_simp; try (with_reducible rfl))
        try simp only [List.getElem_toArray, List.getElem_cons_zero, List.getElem_cons_succ, Act.put, List.setIfInBounds_toArray, List.set_cons_zero, List.set_cons_succ]
        refine wpAnyH_take (i := 10) (v := ?_) rfl (by decide +kernel) (by decide +kernel) (by decide +kernel) (fun _ _ _ h => h) (Or.inl ⟨by rfl, ?_⟩) (by assumption) ?_
        rotate_left 1
        · (intro w hSw; (try dsimp only at hSw); go_simp; try (with_reducible rfl))
        try simp only [List.getElem_toArray, List.getElem_cons_zero, List.getElem_cons_succ, Act.put, List.setIfInBounds_toArray, List.set_cons_zero, List.set_cons_succ]
        refine wpAnyH_take (i := 11) (v := ?_) rfl (by decide +kernel) (by decide +kernel) (by decide +kernel) (fun _ _ _ h => h) (Or.inl ⟨by rfl, ?_⟩) (by assumption) ?_
        rotate_left 1
        · (intro w hSw; (try dsimp only at hSw); go_simp; rfl)
        try simp only [List.getElem_toArray, List.getElem_cons_zero, List.getElem_cons_succ, Act.put, List.setIfInBounds_toArray, List.set_cons_zero, List.set_cons_succ]
        refine wpAnyH_ready (rs := [12]) (by decide +kernel) (by simp) ?_
        refine AllReadyH.cons rfl (fun K hK => ?_) AllReadyH.nil
        have hD2 : DiskAt w2.drew base p (some ⟨ga, 0, none⟩) c F := H2.out.drewN 1
        have hfit : m * 128 + min cz cz ≤ F.kept.length := by rw [H2.out.ok.kept]; omega
        refine step_copy_rd rfl rfl elemU8 bv_one (g := p.gk) (off := m * 128) (dLen := cz) (n := cz) rfl rfl (fun _ => rfl) hD2.bk (pieceRd HB2.out.drew hVS.out (by rw [hb2l.out]; exact hcz1)) hfit rfl ?_
        intro w3 hb3 hg3 hs3
        have e33 : splice F.kept (m * 128) ((bs.take cz).take cz) = splice F.kept (m * 128) (bs.take cz) := by rw [List.take_of_length_le (by rw [List.length_take]; omega)]
        rw [e33] at hb3
        have h3 := hD2.turnKept (w' := w3) (Keep.one hg3) hb3 (by rw [splice_len (by rw [H2.out.ok.kept, List.length_take, hb2l.out]; omega)]; exact H2.out.ok.kept)
        have H3 := Lib.hid h3
        have hbx3 := Lib.hid (Blk.grown (w' := w3) HB2.out.drew hg3 (fun e => by injection e with e; exact hgt1 e.symm))
        have K3 := Lib.hid (show Keep (foot p (some ⟨ga, 0, none⟩)) w w3 from kw2.out.drewD.trans (Keep.one hg3) (fun g _ e => .inr (.inl e)))
        obtain ⟨r0, -, r2, -, -, -, -, -, -⟩ := h3.cells
        simp only at r0 r2
        have rt : w3.cell? ⟨wr.heap.size, 0, none⟩ = some (.int .i64 (m : Int)) := by rw [hbx3.out.cell, hVS.out]; rfl
        have hcm : m < F.inuse.length := by rw [HX.out.ok.inuse]; exact x1
        have em3 := boolCell h3.bi m hcm
        have fm3 := h3.bi.frozen m
        simp only at em3
        clear h3 hD2 hfit hb3
        refine hK.out _ _ (⟨r0, rt⟩) (fun hHeld => ?_)
        clear hK K
        try simp only [List.getElem_toArray, List.getElem_cons_zero, List.getElem_cons_succ, Act.put, List.setIfInBounds_toArray, List.set_cons_zero, List.set_cons_succ]
        refine wpAnyH_done (by decide +kernel) ?_ _
        clear r0 cch hcut1 hcut2 hmin
        have hczc : 0 < cz ∨ cz = 0 := by omega
        generalize hib : F.inuse.getD m false = ib at *
        cases ib with
        | true =>
          have hin : Hid (F.inuse.set m true = if 0 < y then F.inuse.set m true else F.inuse) := by
            show _ = _
            split
            · rfl
            · exact set_same hcm hib
          clear hib hczc
          go_wp2
          refine wp_region_held_drew (S := fun w' => w'.cell? ⟨p.d, 2, none⟩ = some (.slice (some ⟨p.gi, 0, none⟩) F.many F.many) ∧ w'.cell? ⟨wr.heap.size, 0, none⟩ = some (.int .i64 (m : Int))) (by kernel_rfl) ⟨r2, rt⟩ (fun hHeld => ?_)
          refine wpAnyH_take (i := 0) (v := ?_) rfl (by decide +kernel) (by decide +kernel) (by decide +kernel) (fun _ _ _ h => h) (Or.inl ⟨by rfl, ?_⟩) (by assumption) ?_
          rotate_left 1
          · (intro w hSw; (try dsimp only at hSw); go_simp; try (with_reducible rfl))
          try simp only [List.getElem_toArray, List.getElem_cons_zero, List.getElem_cons_succ, Act.put, List.setIfInBounds_toArray, List.set_cons_zero, List.set_cons_succ]
          refine wpAnyH_take (i := 1) (v := ?_) rfl (by decide +kernel) (by decide +kernel) (by decide +kernel) (fun _ _ _ h => h) (Or.inl ⟨by rfl, ?_⟩) (by assumption) ?_
          rotate_left 1
          · (intro w hSw; (try dsimp only at hSw); go_simp; try (with_reducible rfl))
          try simp only [List.getElem_toArray, List.getElem_cons_zero, List.getElem_cons_succ, Act.put, List.setIfInBounds_toArray, List.set_cons_zero, List.set_cons_succ]
          refine wpAnyH_take (i := 2) (v := ?_) rfl (by decide +kernel) (by decide +kernel) (by decide +kernel) (fun _ _ _ h => h) (Or.inl ⟨by rfl, ?_⟩) (by assumption) ?_
          rotate_left 1
          · (intro w hSw; (try dsimp only at hSw); go_simp; try (with_reducible rfl))
          try simp only [List.getElem_toArray, List.getElem_cons_zero, List.getElem_cons_succ, Act.put, List.setIfInBounds_toArray, List.set_cons_zero, List.set_cons_succ]
          refine wpAnyH_take (i := 3) (v := ?_) rfl (by decide +kernel) (by decide +kernel) (by decide +kernel) (fun _ _ _ h => h) (Or.inl ⟨by rfl, ?_⟩) (by assumption) ?_
          rotate_left 1
          · (intro w hSw; (try dsimp only at hSw); obtain ⟨s1, s2⟩ := hSw; go_simp; rfl)
          try simp only [List.getElem_toArray, List.getElem_cons_zero, List.getElem_cons_succ, Act.put, List.setIfInBounds_toArray, List.set_cons_zero, List.set_cons_succ]
          refine wpAnyH_take (i := 4) (v := ?_) rfl (by decide +kernel) (by decide +kernel) (by decide +kernel) (fun _ _ _ h => h) (Or.inl ⟨by rfl, ?_⟩) (by assumption) ?_
          rotate_left 1
          · (intro w hSw; (try dsimp only at hSw); go_simp; try (with_reducible rfl))
          try simp only [List.getElem_toArray, List.getElem_cons_zero, List.getElem_cons_succ, Act.put, List.setIfInBounds_toArray, List.set_cons_zero, List.set_cons_succ]
          refine wpAnyH_take (i := 5) (v := ?_) rfl (by decide +kernel) (by decide +kernel) (by decide +kernel) (fun _ _ _ h => h) (Or.inl ⟨by rfl, ?_⟩) (by assumption) ?_
          rotate_left 1
          · (intro w hSw; (try dsimp only at hSw); obtain ⟨s1, s2⟩ := hSw; go_simp; rfl)
          try simp only [List.getElem_toArray, List.getElem_cons_zero, List.getElem_cons_succ, Act.put, List.setIfInBounds_toArray, List.set_cons_zero, List.set_cons_succ]
          refine wpAnyH_take (i := 6) (v := ?_) rfl (by decide +kernel) (by decide +kernel) (by decide +kernel) (fun _ _ _ h => h) (Or.inl ⟨by rfl, ?_⟩) (by assumption) ?_
          rotate_left 1
          · (intro w hSw; (try dsimp only at hSw); go_simp; try (with_reducible rfl))
          try simp only [List.getElem_toArray, List.getElem_cons_zero, List.getElem_cons_succ, Act.put, List.setIfInBounds_toArray, List.set_cons_zero, List.set_cons_succ]
          refine wpAnyH_take (i := 7) (v := ?_) rfl (by decide +kernel) (by decide +kernel) (by decide +kernel) (fun _ _ _ h => h) (Or.inl ⟨by rfl, ?_⟩) (by assumption) ?_
          rotate_left 1
          · (intro w hSw; (try dsimp only at hSw); go_simp; try (with_reducible rfl))
          try simp only [List.getElem_toArray, List.getElem_cons_zero, List.getElem_cons_succ, Act.put, List.setIfInBounds_toArray, List.set_cons_zero, List.set_cons_succ]
          refine wpAnyH_take (i := 8) (v := ?_) rfl (by decide +kernel) (by decide +kernel) (by decide +kernel) (fun _ _ _ h => h) (Or.inl ⟨by rfl, ?_⟩) (by assumption) ?_
          rotate_left 1
          · (intro w hSw; (try dsimp only at hSw); go_simp; try (with_reducible rfl))
          try simp only [List.getElem_toArray, List.getElem_cons_zero, List.getElem_cons_succ, Act.put, List.setIfInBounds_toArray, List.set_cons_zero, List.set_cons_succ]
          refine wpAnyH_take (i := 9) (v := ?_) rfl (by decide +kernel) (by decide +kernel) (by decide +kernel) (fun _ _ _ h => h) (Or.inl ⟨by rfl, ?_⟩) (by assumption) ?_
          rotate_left 1
          · (intro w hSw; (try dsimp only at hSw); obtain ⟨s1, s2⟩ := hSw; go_simp; rfl)
          try simp only [List.getElem_toArray, List.getElem_cons_zero, List.getElem_cons_succ, Act.put, List.setIfInBounds_toArray, List.set_cons_zero, List.set_cons_succ]
          refine wpAnyH_take (i := 10) (v := ?_) rfl (by decide +kernel) (by decide +kernel) (by decide +kernel) (fun _ _ _ h => h) (Or.inl ⟨by rfl, ?_⟩) (by assumption) ?_
          rotate_left 1
          · (intro w hSw; (try dsimp only at hSw); go_simp; try (with_reducible rfl))
          try simp only [List.getElem_toArray, List.getElem_cons_zero, List.getElem_cons_succ, Act.put, List.setIfInBounds_toArray, List.set_cons_zero, List.set_cons_succ]
          refine wpAnyH_take (i := 11) (v := ?_) rfl (by decide +kernel) (by decide +kernel) (by decide +kernel) (fun _ _ _ h => h) (Or.inl ⟨by rfl, ?_⟩) (by assumption) ?_
          rotate_left 1
          · (intro w hSw; (try dsimp only at hSw); obtain ⟨s1, s2⟩ := hSw; go_simp; rfl)
          try simp only [List.getElem_toArray, List.getElem_cons_zero, List.getElem_cons_succ, Act.put, List.setIfInBounds_toArray, List.set_cons_zero, List.set_cons_succ]
          refine wpAnyH_take (i := 12) (v := ?_) rfl (by decide +kernel) (by decide +kernel) (by decide +kernel) (fun _ _ _ h => h) (Or.inl ⟨by rfl, ?_⟩) (by assumption) ?_
          rotate_left 1
          · (intro w hSw; (try dsimp only at hSw); go_simp; try (with_reducible rfl))
          try simp only [List.getElem_toArray, List.getElem_cons_zero, List.getElem_cons_succ, Act.put, List.setIfInBounds_toArray, List.set_cons_zero, List.set_cons_succ]
          refine wpAnyH_ready (rs := [13]) (by decide +kernel) (by simp) ?_
          refine AllReadyH.cons rfl (fun K hK => ?_) AllReadyH.nil
          go_simp
          refine hK.out _ _ (hHeld) (fun hHeld => ?_)
          clear hK K
          try simp only [List.getElem_toArray, List.getElem_cons_zero, List.getElem_cons_succ, Act.put, List.setIfInBounds_toArray, List.set_cons_zero, List.set_cons_succ]
          refine wpAnyH_take (i := 14) (v := ?_) rfl (by decide +kernel) (by decide +kernel) (by decide +kernel) (fun _ _ _ h => h) (Or.inl ⟨by rfl, ?_⟩) (by assumption) ?_
          rotate_left 1
          · (intro w hSw; (try dsimp only at hSw); go_simp; try (with_reducible rfl))
          try simp only [List.getElem_toArray, List.getElem_cons_zero, List.getElem_cons_succ, Act.put, List.setIfInBounds_toArray, List.set_cons_zero, List.set_cons_succ]
          refine wpAnyH_take (i := 15) (v := undef) rfl (by decide +kernel) (by decide +kernel) (by decide +kernel) (fun _ _ _ h => h) (Or.inr ⟨by rfl, rfl⟩) (by assumption) ?_
          try simp only [List.getElem_toArray, List.getElem_cons_zero, List.getElem_cons_succ, Act.put, List.setIfInBounds_toArray, List.set_cons_zero, List.set_cons_succ]
          refine wpAnyH_take (i := 16) (v := undef) rfl (by decide +kernel) (by decide +kernel) (by decide +kernel) (fun _ _ _ h => h) (Or.inr ⟨by rfl, rfl⟩) (by assumption) ?_
          try simp only [List.getElem_toArray, List.getElem_cons_zero, List.getElem_cons_succ, Act.put, List.setIfInBounds_toArray, List.set_cons_zero, List.set_cons_succ]
          refine wpAnyH_take (i := 17) (v := ?_) rfl (by decide +kernel) (by decide +kernel) (by decide +kernel) (fun _ _ _ h => h) (Or.inl ⟨by rfl, ?_⟩) (by assumption) ?_
          rotate_left 1
          · (intro w hSw; (try dsimp only at hSw); go_simp; try (with_reducible rfl))
          try simp only [List.getElem_toArray, List.getElem_cons_zero, List.getElem_cons_succ, Act.put, List.setIfInBounds_toArray, List.set_cons_zero, List.set_cons_succ]
          refine wpAnyH_take (i := 18) (v := ?_) rfl (by decide +kernel) (by decide +kernel) (by decide +kernel) (fun _ _ _ h => h) (Or.inl ⟨by rfl, ?_⟩) (by assumption) ?_
          rotate_left 1
          · (intro w hSw; (try dsimp only at hSw); go_simp; try (with_reducible rfl))
          try simp only [List.getElem_toArray, List.getElem_cons_zero, List.getElem_cons_succ, Act.put, List.setIfInBounds_toArray, List.set_cons_zero, List.set_cons_succ]
          refine wpAnyH_ready (rs := [19]) (by decide +kernel) (by simp) ?_
          refine AllReadyH.cons rfl (fun K hK => ?_) AllReadyH.nil
          go_simp
          have h8 := H3.out.setIn m true
          have hbx8 : Blk (w3.setCell ⟨p.gi, m, none⟩ (.bool true)) wr.heap.size 130 V := hbx3.out.far (by exact hgt2) _
          obtain ⟨-, -, u2, -⟩ := h8.cells
          simp only at u2
          have ut : (w3.setCell ⟨p.gi, m, none⟩ (.bool true)).cell? ⟨wr.heap.size, 0, none⟩ = some (.int .i64 (m : Int)) := by rw [hbx8.cell, hVS.out]; rfl
          have H8 := Lib.hid h8
          clear h8
          refine hK.out _ _ (⟨u2, ut⟩) (fun hHeld => ?_)
          clear hK K
          try simp only [List.getElem_toArray, List.getElem_cons_zero, List.getElem_cons_succ, Act.put, List.setIfInBounds_toArray, List.set_cons_zero, List.set_cons_succ]
          refine wpAnyH_done (by decide +kernel) ?_ _
          go_wp2
          go_roundw
          case rel =>
            have hfin : DiskAt (w3.drew.setCell ⟨p.gi, m, none⟩ (.bool true)) base p (some ⟨ga, 0, none⟩) c (crD D cs (k + 1)) := by
              have := H8.out.drewN 1
              rw [hnx.out]
              rw [hin.out] at this
              exact this
            have kfin : Keep (foot p (some ⟨ga, 0, none⟩)) w (w3.drew.setCell ⟨p.gi, m, none⟩ (.bool true)) := K3.out.drewD.set_ _ (.inr (.inr (.inr (.inl rfl))))
            have r0 : k + 1 ≤ D.waits.length := by omega
            have r1 : k + 1 ≤ n := by omega
            have r2 : Value.int .i64 ((k : Int) + 1) = .int .i64 ((k + 1 : Nat) : Int) := by go_num
            first
              | exact ⟨k + 1, r0, r1, r2, hfin, kfin⟩
              | exact ⟨_, _, _, _, ⟨k + 1, r0, r1, r2, hfin, kfin⟩, rfl, rfl, rfl, rfl⟩
          case measure => simp [intOf]; omega
        | false =>
          rcases hczc with hcp | hc0
          · have hin : Hid (F.inuse.set m true = if 0 < y then F.inuse.set m true else F.inuse) := by
              show _ = _
              rw [if_pos (hCZ.out.mp hcp)]
            have hcpi : (0 : Int) < (cz : Int) := by omega
            clear hib
            go_wp2
            refine wp_region_held_drew (S := fun w' => w'.cell? ⟨p.d, 2, none⟩ = some (.slice (some ⟨p.gi, 0, none⟩) F.many F.many) ∧ w'.cell? ⟨wr.heap.size, 0, none⟩ = some (.int .i64 (m : Int))) (by kernel_rfl) ⟨r2, rt⟩ (fun hHeld => ?_)
            refine wpAnyH_take (i := 0) (v := ?_) rfl (by decide +kernel) (by decide +kernel) (by decide +kernel) (fun _ _ _ h => h) (Or.inl ⟨by rfl, ?_⟩) (by assumption) ?_
            rotate_left 1
            · (intro w hSw; (try dsimp only at hSw); go_simp; try (with_reducible rfl))
            try simp only [List.getElem_toArray, List.getElem_cons_zero, List.getElem_cons_succ, Act.put, List.setIfInBounds_toArray, List.set_cons_zero, List.set_cons_succ]
            refine wpAnyH_take (i := 1) (v := ?_) rfl (by decide +kernel) (by decide +kernel) (by decide +kernel) (fun _ _ _ h => h) (Or.inl ⟨by rfl, ?_⟩) (by assumption) ?_
            rotate_left 1
            · (intro w hSw; (try dsimp only at hSw); go_simp; try (with_reducible rfl))
            try simp only [List.getElem_toArray, List.getElem_cons_zero, List.getElem_cons_succ, Act.put, List.setIfInBounds_toArray, List.set_cons_zero, List.set_cons_succ]
            refine wpAnyH_take (i := 2) (v := ?_) rfl (by decide +kernel) (by decide +kernel) (by decide +kernel) (fun _ _ _ h => h) (Or.inl ⟨by rfl, ?_⟩) (by assumption) ?_
            rotate_left 1
            · (intro w hSw; (try dsimp only at hSw); go_simp; try (with_reducible rfl))
            try simp only [List.getElem_toArray, List.getElem_cons_zero, List.getElem_cons_succ, Act.put, List.setIfInBounds_toArray, List.set_cons_zero, List.set_cons_succ]
            refine wpAnyH_take (i := 3) (v := ?_) rfl (by decide +kernel) (by decide +kernel) (by decide +kernel) (fun _ _ _ h => h) (Or.inl ⟨by rfl, ?_⟩) (by assumption) ?_
            rotate_left 1
            · (intro w hSw; (try dsimp only at hSw); obtain ⟨s1, s2⟩ := hSw; go_simp; rfl)
            try simp only [List.getElem_toArray, List.getElem_cons_zero, List.getElem_cons_succ, Act.put, List.setIfInBounds_toArray, List.set_cons_zero, List.set_cons_succ]
            refine wpAnyH_take (i := 4) (v := ?_) rfl (by decide +kernel) (by decide +kernel) (by decide +kernel) (fun _ _ _ h => h) (Or.inl ⟨by rfl, ?_⟩) (by assumption) ?_
            rotate_left 1
            · (intro w hSw; (try dsimp only at hSw); go_simp; try (with_reducible rfl))
            try simp only [List.getElem_toArray, List.getElem_cons_zero, List.getElem_cons_succ, Act.put, List.setIfInBounds_toArray, List.set_cons_zero, List.set_cons_succ]
            refine wpAnyH_take (i := 5) (v := ?_) rfl (by decide +kernel) (by decide +kernel) (by decide +kernel) (fun _ _ _ h => h) (Or.inl ⟨by rfl, ?_⟩) (by assumption) ?_
            rotate_left 1
            · (intro w hSw; (try dsimp only at hSw); obtain ⟨s1, s2⟩ := hSw; go_simp; rfl)
            try simp only [List.getElem_toArray, List.getElem_cons_zero, List.getElem_cons_succ, Act.put, List.setIfInBounds_toArray, List.set_cons_zero, List.set_cons_succ]
            refine wpAnyH_take (i := 6) (v := ?_) rfl (by decide +kernel) (by decide +kernel) (by decide +kernel) (fun _ _ _ h => h) (Or.inl ⟨by rfl, ?_⟩) (by assumption) ?_
            rotate_left 1
            · (intro w hSw; (try dsimp only at hSw); go_simp; try (with_reducible rfl))
            try simp only [List.getElem_toArray, List.getElem_cons_zero, List.getElem_cons_succ, Act.put, List.setIfInBounds_toArray, List.set_cons_zero, List.set_cons_succ]
            refine wpAnyH_take (i := 7) (v := ?_) rfl (by decide +kernel) (by decide +kernel) (by decide +kernel) (fun _ _ _ h => h) (Or.inl ⟨by rfl, ?_⟩) (by assumption) ?_
            rotate_left 1
            · (intro w hSw; (try dsimp only at hSw); go_simp; try (with_reducible rfl))
            try simp only [List.getElem_toArray, List.getElem_cons_zero, List.getElem_cons_succ, Act.put, List.setIfInBounds_toArray, List.set_cons_zero, List.set_cons_succ]
            refine wpAnyH_take (i := 8) (v := ?_) rfl (by decide +kernel) (by decide +kernel) (by decide +kernel) (fun _ _ _ h => h) (Or.inl ⟨by rfl, ?_⟩) (by assumption) ?_
            rotate_left 1
            · (intro w hSw; (try dsimp only at hSw); go_simp; try (with_reducible rfl))
            try simp only [List.getElem_toArray, List.getElem_cons_zero, List.getElem_cons_succ, Act.put, List.setIfInBounds_toArray, List.set_cons_zero, List.set_cons_succ]
            refine wpAnyH_take (i := 9) (v := ?_) rfl (by decide +kernel) (by decide +kernel) (by decide +kernel) (fun _ _ _ h => h) (Or.inl ⟨by rfl, ?_⟩) (by assumption) ?_
            rotate_left 1
            · (intro w hSw; (try dsimp only at hSw); obtain ⟨s1, s2⟩ := hSw; go_simp; rfl)
            try simp only [List.getElem_toArray, List.getElem_cons_zero, List.getElem_cons_succ, Act.put, List.setIfInBounds_toArray, List.set_cons_zero, List.set_cons_succ]
            refine wpAnyH_take (i := 10) (v := ?_) rfl (by decide +kernel) (by decide +kernel) (by decide +kernel) (fun _ _ _ h => h) (Or.inl ⟨by rfl, ?_⟩) (by assumption) ?_
            rotate_left 1
            · (intro w hSw; (try dsimp only at hSw); go_simp; try (with_reducible rfl))
            try simp only [List.getElem_toArray, List.getElem_cons_zero, List.getElem_cons_succ, Act.put, List.setIfInBounds_toArray, List.set_cons_zero, List.set_cons_succ]
            refine wpAnyH_take (i := 11) (v := ?_) rfl (by decide +kernel) (by decide +kernel) (by decide +kernel) (fun _ _ _ h => h) (Or.inl ⟨by rfl, ?_⟩) (by assumption) ?_
            rotate_left 1
            · (intro w hSw; (try dsimp only at hSw); obtain ⟨s1, s2⟩ := hSw; go_simp; rfl)
            try simp only [List.getElem_toArray, List.getElem_cons_zero, List.getElem_cons_succ, Act.put, List.setIfInBounds_toArray, List.set_cons_zero, List.set_cons_succ]
            refine wpAnyH_take (i := 12) (v := ?_) rfl (by decide +kernel) (by decide +kernel) (by decide +kernel) (fun _ _ _ h => h) (Or.inl ⟨by rfl, ?_⟩) (by assumption) ?_
            rotate_left 1
            · (intro w hSw; (try dsimp only at hSw); go_simp; try (with_reducible rfl))
            try simp only [List.getElem_toArray, List.getElem_cons_zero, List.getElem_cons_succ, Act.put, List.setIfInBounds_toArray, List.set_cons_zero, List.set_cons_succ]
            refine wpAnyH_ready (rs := [13]) (by decide +kernel) (by simp) ?_
            refine AllReadyH.cons rfl (fun K hK => ?_) AllReadyH.nil
            go_simp
            refine hK.out _ _ (hHeld) (fun hHeld => ?_)
            clear hK K
            try simp only [List.getElem_toArray, List.getElem_cons_zero, List.getElem_cons_succ, Act.put, List.setIfInBounds_toArray, List.set_cons_zero, List.set_cons_succ]
            refine wpAnyH_take (i := 14) (v := ?_) rfl (by decide +kernel) (by decide +kernel) (by decide +kernel) (fun _ _ _ h => h) (Or.inl ⟨by rfl, ?_⟩) (by assumption) ?_
            rotate_left 1
            · (intro w hSw; (try dsimp only at hSw); go_simp; try (with_reducible rfl))
            try simp only [List.getElem_toArray, List.getElem_cons_zero, List.getElem_cons_succ, Act.put, List.setIfInBounds_toArray, List.set_cons_zero, List.set_cons_succ]
            refine wpAnyH_take (i := 15) (v := ?_) rfl (by decide +kernel) (by decide +kernel) (by decide +kernel) (fun _ _ _ h => h) (Or.inl ⟨by rfl, ?_⟩) (by assumption) ?_
            rotate_left 1
            · (intro w hSw; (try dsimp only at hSw); go_simp; try (with_reducible rfl))
            try simp only [List.getElem_toArray, List.getElem_cons_zero, List.getElem_cons_succ, Act.put, List.setIfInBounds_toArray, List.set_cons_zero, List.set_cons_succ]
            refine wpAnyH_take (i := 16) (v := ?_) rfl (by decide +kernel) (by decide +kernel) (by decide +kernel) (fun _ _ _ h => h) (Or.inl ⟨by rfl, ?_⟩) (by assumption) ?_
            rotate_left 1
            · (intro w hSw; (try dsimp only at hSw); go_simp; try (with_reducible rfl))
            try simp only [List.getElem_toArray, List.getElem_cons_zero, List.getElem_cons_succ, Act.put, List.setIfInBounds_toArray, List.set_cons_zero, List.set_cons_succ]
            refine wpAnyH_take (i := 17) (v := ?_) rfl (by decide +kernel) (by decide +kernel) (by decide +kernel) (fun _ _ _ h => h) (Or.inl ⟨by rfl, ?_⟩) (by assumption) ?_
            rotate_left 1
            · (intro w hSw; (try dsimp only at hSw); go_simp; try (with_reducible rfl))
            try simp only [List.getElem_toArray, List.getElem_cons_zero, List.getElem_cons_succ, Act.put, List.setIfInBounds_toArray, List.set_cons_zero, List.set_cons_succ]
            refine wpAnyH_take (i := 18) (v := ?_) rfl (by decide +kernel) (by decide +kernel) (by decide +kernel) (fun _ _ _ h => h) (Or.inl ⟨by rfl, ?_⟩) (by assumption) ?_
            rotate_left 1
            · (intro w hSw; (try dsimp only at hSw); go_simp; try (with_reducible rfl))
            try simp only [List.getElem_toArray, List.getElem_cons_zero, List.getElem_cons_succ, Act.put, List.setIfInBounds_toArray, List.set_cons_zero, List.set_cons_succ]
            refine wpAnyH_ready (rs := [19]) (by decide +kernel) (by simp) ?_
            refine AllReadyH.cons rfl (fun K hK => ?_) AllReadyH.nil
            go_simp
            have h8 := H3.out.setIn m true
            have hbx8 : Blk (w3.setCell ⟨p.gi, m, none⟩ (.bool true)) wr.heap.size 130 V := hbx3.out.far (by exact hgt2) _
            obtain ⟨-, -, u2, -⟩ := h8.cells
            simp only at u2
            have ut : (w3.setCell ⟨p.gi, m, none⟩ (.bool true)).cell? ⟨wr.heap.size, 0, none⟩ = some (.int .i64 (m : Int)) := by rw [hbx8.cell, hVS.out]; rfl
            have H8 := Lib.hid h8
            clear h8
            refine hK.out _ _ (⟨u2, ut⟩) (fun hHeld => ?_)
            clear hK K
            try simp only [List.getElem_toArray, List.getElem_cons_zero, List.getElem_cons_succ, Act.put, List.setIfInBounds_toArray, List.set_cons_zero, List.set_cons_succ]
            refine wpAnyH_done (by decide +kernel) ?_ _
            go_wp2
            go_roundw
            case rel =>
              have hfin : DiskAt (w3.drew.setCell ⟨p.gi, m, none⟩ (.bool true)) base p (some ⟨ga, 0, none⟩) c (crD D cs (k + 1)) := by
                have := H8.out.drewN 1
                rw [hnx.out]
                rw [hin.out] at this
                exact this
              have kfin : Keep (foot p (some ⟨ga, 0, none⟩)) w (w3.drew.setCell ⟨p.gi, m, none⟩ (.bool true)) := K3.out.drewD.set_ _ (.inr (.inr (.inr (.inl rfl))))
              have r0 : k + 1 ≤ D.waits.length := by omega
              have r1 : k + 1 ≤ n := by omega
              have r2 : Value.int .i64 ((k : Int) + 1) = .int .i64 ((k + 1 : Nat) : Int) := by go_num
              first
                | exact ⟨k + 1, r0, r1, r2, hfin, kfin⟩
                | exact ⟨_, _, _, _, ⟨k + 1, r0, r1, r2, hfin, kfin⟩, rfl, rfl, rfl, rfl⟩
            case measure => simp [intOf]; omega
          · have hin : Hid (F.inuse.set m false = if 0 < y then F.inuse.set m true else F.inuse) := by
              show _ = _
              rw [if_neg (fun q => by have := hCZ.out.mpr q; omega)]
              exact set_same hcm hib
            clear hib
            subst hc0
            go_wp2
            refine wp_region_held_drew (S := fun w' => w'.cell? ⟨p.d, 2, none⟩ = some (.slice (some ⟨p.gi, 0, none⟩) F.many F.many) ∧ w'.cell? ⟨wr.heap.size, 0, none⟩ = some (.int .i64 (m : Int))) (by kernel_rfl) ⟨r2, rt⟩ (fun hHeld => ?_)
            refine wpAnyH_take (i := 0) (v := ?_) rfl (by decide +kernel) (by decide +kernel) (by decide +kernel) (fun _ _ _ h => h) (Or.inl ⟨by rfl, ?_⟩) (by assumption) ?_
            rotate_left 1
            · (intro w hSw; (try dsimp only at hSw); go_simp; try (with_reducible rfl))
            try simp only [List.getElem_toArray, List.getElem_cons_zero, List.getElem_cons_succ, Act.put, List.setIfInBounds_toArray, List.set_cons_zero, List.set_cons_succ]
            refine wpAnyH_take (i := 1) (v := ?_) rfl (by decide +kernel) (by decide +kernel) (by decide +kernel) (fun _ _ _ h => h) (Or.inl ⟨by rfl, ?_⟩) (by assumption) ?_
            rotate_left 1
            · (intro w hSw; (try dsimp only at hSw); go_simp; try (with_reducible rfl))
            try simp only [List.getElem_toArray, List.getElem_cons_zero, List.getElem_cons_succ, Act.put, List.setIfInBounds_toArray, List.set_cons_zero, List.set_cons_succ]
            refine wpAnyH_take (i := 2) (v := ?_) rfl (by decide +kernel) (by decide +kernel) (by decide +kernel) (fun _ _ _ h => h) (Or.inl ⟨by rfl, ?_⟩) (by assumption) ?_
            rotate_left 1
            · (intro w hSw; (try dsimp only at hSw); go_simp; try (with_reducible rfl))
            try simp only [List.getElem_toArray, List.getElem_cons_zero, List.getElem_cons_succ, Act.put, List.setIfInBounds_toArray, List.set_cons_zero, List.set_cons_succ]
            refine wpAnyH_take (i := 3) (v := ?_) rfl (by decide +kernel) (by decide +kernel) (by decide +kernel) (fun _ _ _ h => h) (Or.inl ⟨by rfl, ?_⟩) (by assumption) ?_
            rotate_left 1
            · (intro w hSw; (try dsimp only at hSw); obtain ⟨s1, s2⟩ := hSw; go_simp; rfl)
            try simp only [List.getElem_toArray, List.getElem_cons_zero, List.getElem_cons_succ, Act.put, List.setIfInBounds_toArray, List.set_cons_zero, List.set_cons_succ]
            refine wpAnyH_take (i := 4) (v := ?_) rfl (by decide +kernel) (by decide +kernel) (by decide +kernel) (fun _ _ _ h => h) (Or.inl ⟨by rfl, ?_⟩) (by assumption) ?_
            rotate_left 1
            · (intro w hSw; (try dsimp only at hSw); go_simp; try (with_reducible rfl))
            try simp only [List.getElem_toArray, List.getElem_cons_zero, List.getElem_cons_succ, Act.put, List.setIfInBounds_toArray, List.set_cons_zero, List.set_cons_succ]
            refine wpAnyH_take (i := 5) (v := ?_) rfl (by decide +kernel) (by decide +kernel) (by decide +kernel) (fun _ _ _ h => h) (Or.inl ⟨by rfl, ?_⟩) (by assumption) ?_
            rotate_left 1
            · (intro w hSw; (try dsimp only at hSw); obtain ⟨s1, s2⟩ := hSw; go_simp; rfl)
            try simp only [List.getElem_toArray, List.getElem_cons_zero, List.getElem_cons_succ, Act.put, List.setIfInBounds_toArray, List.set_cons_zero, List.set_cons_succ]
            refine wpAnyH_take (i := 6) (v := ?_) rfl (by decide +kernel) (by decide +kernel) (by decide +kernel) (fun _ _ _ h => h) (Or.inl ⟨by rfl, ?_⟩) (by assumption) ?_
            rotate_left 1
            · (intro w hSw; (try dsimp only at hSw); go_simp; try (with_reducible rfl))
            try simp only [List.getElem_toArray, List.getElem_cons_zero, List.getElem_cons_succ, Act.put, List.setIfInBounds_toArray, List.set_cons_zero, List.set_cons_succ]
            refine wpAnyH_take (i := 7) (v := ?_) rfl (by decide +kernel) (by decide +kernel) (by decide +kernel) (fun _ _ _ h => h) (Or.inl ⟨by rfl, ?_⟩) (by assumption) ?_
            rotate_left 1
            · (intro w hSw; (try dsimp only at hSw); go_simp; try (with_reducible rfl))
            try simp only [List.getElem_toArray, List.getElem_cons_zero, List.getElem_cons_succ, Act.put, List.setIfInBounds_toArray, List.set_cons_zero, List.set_cons_succ]
            refine wpAnyH_take (i := 8) (v := ?_) rfl (by decide +kernel) (by decide +kernel) (by decide +kernel) (fun _ _ _ h => h) (Or.inl ⟨by rfl, ?_⟩) (by assumption) ?_
            rotate_left 1
            · (intro w hSw; (try dsimp only at hSw); go_simp; try (with_reducible rfl))
            try simp only [List.getElem_toArray, List.getElem_cons_zero, List.getElem_cons_succ, Act.put, List.setIfInBounds_toArray, List.set_cons_zero, List.set_cons_succ]
            refine wpAnyH_take (i := 9) (v := ?_) rfl (by decide +kernel) (by decide +kernel) (by decide +kernel) (fun _ _ _ h => h) (Or.inl ⟨by rfl, ?_⟩) (by assumption) ?_
            rotate_left 1
            · (intro w hSw; (try dsimp only at hSw); obtain ⟨s1, s2⟩ := hSw; go_simp; rfl)
            try simp only [List.getElem_toArray, List.getElem_cons_zero, List.getElem_cons_succ, Act.put, List.setIfInBounds_toArray, List.set_cons_zero, List.set_cons_succ]
            refine wpAnyH_take (i := 10) (v := ?_) rfl (by decide +kernel) (by decide +kernel) (by decide +kernel) (fun _ _ _ h => h) (Or.inl ⟨by rfl, ?_⟩) (by assumption) ?_
            rotate_left 1
            · (intro w hSw; (try dsimp only at hSw); go_simp; try (with_reducible rfl))
            try simp only [List.getElem_toArray, List.getElem_cons_zero, List.getElem_cons_succ, Act.put, List.setIfInBounds_toArray, List.set_cons_zero, List.set_cons_succ]
            refine wpAnyH_take (i := 11) (v := ?_) rfl (by decide +kernel) (by decide +kernel) (by decide +kernel) (fun _ _ _ h => h) (Or.inl ⟨by rfl, ?_⟩) (by assumption) ?_
            rotate_left 1
            · (intro w hSw; (try dsimp only at hSw); obtain ⟨s1, s2⟩ := hSw; go_simp; rfl)
            try simp only [List.getElem_toArray, List.getElem_cons_zero, List.getElem_cons_succ, Act.put, List.setIfInBounds_toArray, List.set_cons_zero, List.set_cons_succ]
            refine wpAnyH_take (i := 12) (v := ?_) rfl (by decide +kernel) (by decide +kernel) (by decide +kernel) (fun _ _ _ h => h) (Or.inl ⟨by rfl, ?_⟩) (by assumption) ?_
            rotate_left 1
            · (intro w hSw; (try dsimp only at hSw); go_simp; try (with_reducible rfl))
            try simp only [List.getElem_toArray, List.getElem_cons_zero, List.getElem_cons_succ, Act.put, List.setIfInBounds_toArray, List.set_cons_zero, List.set_cons_succ]
            refine wpAnyH_ready (rs := [13]) (by decide +kernel) (by simp) ?_
            refine AllReadyH.cons rfl (fun K hK => ?_) AllReadyH.nil
            go_simp
            refine hK.out _ _ (hHeld) (fun hHeld => ?_)
            clear hK K
            try simp only [List.getElem_toArray, List.getElem_cons_zero, List.getElem_cons_succ, Act.put, List.setIfInBounds_toArray, List.set_cons_zero, List.set_cons_succ]
            refine wpAnyH_take (i := 14) (v := ?_) rfl (by decide +kernel) (by decide +kernel) (by decide +kernel) (fun _ _ _ h => h) (Or.inl ⟨by rfl, ?_⟩) (by assumption) ?_
            rotate_left 1
            · (intro w hSw; (try dsimp only at hSw); go_simp; try (with_reducible rfl))
            try simp only [List.getElem_toArray, List.getElem_cons_zero, List.getElem_cons_succ, Act.put, List.setIfInBounds_toArray, List.set_cons_zero, List.set_cons_succ]
            refine wpAnyH_take (i := 15) (v := ?_) rfl (by decide +kernel) (by decide +kernel) (by decide +kernel) (fun _ _ _ h => h) (Or.inl ⟨by rfl, ?_⟩) (by assumption) ?_
            rotate_left 1
            · (intro w hSw; (try dsimp only at hSw); go_simp; try (with_reducible rfl))
            try simp only [List.getElem_toArray, List.getElem_cons_zero, List.getElem_cons_succ, Act.put, List.setIfInBounds_toArray, List.set_cons_zero, List.set_cons_succ]
            refine wpAnyH_take (i := 16) (v := ?_) rfl (by decide +kernel) (by decide +kernel) (by decide +kernel) (fun _ _ _ h => h) (Or.inl ⟨by rfl, ?_⟩) (by assumption) ?_
            rotate_left 1
            · (intro w hSw; (try dsimp only at hSw); go_simp; try (with_reducible rfl))
            try simp only [List.getElem_toArray, List.getElem_cons_zero, List.getElem_cons_succ, Act.put, List.setIfInBounds_toArray, List.set_cons_zero, List.set_cons_succ]
            refine wpAnyH_take (i := 17) (v := ?_) rfl (by decide +kernel) (by decide +kernel) (by decide +kernel) (fun _ _ _ h => h) (Or.inl ⟨by rfl, ?_⟩) (by assumption) ?_
            rotate_left 1
            · (intro w hSw; (try dsimp only at hSw); go_simp; try (with_reducible rfl))
            try simp only [List.getElem_toArray, List.getElem_cons_zero, List.getElem_cons_succ, Act.put, List.setIfInBounds_toArray, List.set_cons_zero, List.set_cons_succ]
            refine wpAnyH_take (i := 18) (v := ?_) rfl (by decide +kernel) (by decide +kernel) (by decide +kernel) (fun _ _ _ h => h) (Or.inl ⟨by rfl, ?_⟩) (by assumption) ?_
            rotate_left 1
            · (intro w hSw; (try dsimp only at hSw); go_simp; try (with_reducible rfl))
            try simp only [List.getElem_toArray, List.getElem_cons_zero, List.getElem_cons_succ, Act.put, List.setIfInBounds_toArray, List.set_cons_zero, List.set_cons_succ]
            refine wpAnyH_ready (rs := [19]) (by decide +kernel) (by simp) ?_
            refine AllReadyH.cons rfl (fun K hK => ?_) AllReadyH.nil
            go_simp
            have h8 := H3.out.setIn m false
            have hbx8 : Blk (w3.setCell ⟨p.gi, m, none⟩ (.bool false)) wr.heap.size 130 V := hbx3.out.far (by exact hgt2) _
            obtain ⟨-, -, u2, -⟩ := h8.cells
            simp only at u2
            have ut : (w3.setCell ⟨p.gi, m, none⟩ (.bool false)).cell? ⟨wr.heap.size, 0, none⟩ = some (.int .i64 (m : Int)) := by rw [hbx8.cell, hVS.out]; rfl
            have H8 := Lib.hid h8
            clear h8
            refine hK.out _ _ (⟨u2, ut⟩) (fun hHeld => ?_)
            clear hK K
            try simp only [List.getElem_toArray, List.getElem_cons_zero, List.getElem_cons_succ, Act.put, List.setIfInBounds_toArray, List.set_cons_zero, List.set_cons_succ]
            refine wpAnyH_done (by decide +kernel) ?_ _
            go_wp2
            go_roundw
            case rel =>
              have hfin : DiskAt (w3.drew.setCell ⟨p.gi, m, none⟩ (.bool false)) base p (some ⟨ga, 0, none⟩) c (crD D cs (k + 1)) := by
                have := H8.out.drewN 1
                rw [hnx.out]
                rw [hin.out] at this
                exact this
              have kfin : Keep (foot p (some ⟨ga, 0, none⟩)) w (w3.drew.setCell ⟨p.gi, m, none⟩ (.bool false)) := K3.out.drewD.set_ _ (.inr (.inr (.inr (.inl rfl))))
              have r0 : k + 1 ≤ D.waits.length := by omega
              have r1 : k + 1 ≤ n := by omega
              have r2 : Value.int .i64 ((k : Int) + 1) = .int .i64 ((k + 1 : Nat) : Int) := by go_num
              first
                | exact ⟨k + 1, r0, r1, r2, hfin, kfin⟩
                | exact ⟨_, _, _, _, ⟨k + 1, r0, r1, r2, hfin, kfin⟩, rfl, rfl, rfl, rfl⟩
            case measure => simp [intOf]; omega
      · have hkk : Hid (k = min D.waits.length cs.length) := by show _ = _; have := hlen.out; omega
        generalize hV : pieceV (pieceAt D.waits k) = V at *
        clear hV hVS hnx x1 x2 HM
        go_wp2_with (first
          | (refine wpList_load_str rfl (x := .tmp 18) rfl rfl hcur Try.underlying130 HiP.out hVl.out hxat.out ?_)
          | (refine wpList_store_arr rfl (x := .tmp 5) (y := .tmp 19) rfl rfl rfl (t := 130) (cs := Zp) (xs := V) (Blk.top _ rfl rfl) HiP.out hVl.out (by rw [hZl.out]; omega) hVone.out ?_; intro w2 hb2 hg2 hs2; have h2 := ((HX.out.alloc (.cells Zp.toArray 130)).keep (F := (· = wr.heap.size)) (Keep.one hg2) (fun g hg e => by have := hfl g hg; omega)); have kw2 : Keep (foot p (some ⟨ga, 0, none⟩)) w w2 := ((kw.alloc (.cells Zp.toArray 130)).trans (G := (· = wr.heap.size)) (Keep.one hg2) (fun g hg e => by omega)); clear c4; have f4 := (h2).st.frozen 4; have f6 := (h2).st.frozen 6; have f7 := (h2).st.frozen 7; obtain ⟨-, -, -, -, c4, -, c6, c7, -⟩ := (h2).cells; have h9 := ((DiskAt.noWaits (h2)).setOff false).setCut (-1) (by omega); have H9 := Lib.hid h9; have k9 : Keep (foot p (some ⟨ga, 0, none⟩)) w (((w2.setCell ⟨p.d, 4, none⟩ (.slice none 0 0)).setCell ⟨p.d, 7, none⟩ (.bool false)).setCell ⟨p.d, 6, none⟩ (.int .i64 (-1))) := ((((kw2).set_ _ (.inl rfl)).set_ _ (.inl rfl)).set_ _ (.inl rfl)); have K9 := Lib.hid k9; obtain ⟨q0, q1, -, -, -, -, -, -, -⟩ := h9.cells; clear h9 k9; generalize hW9 : ((w2.setCell ⟨p.d, 4, none⟩ (.slice none 0 0)).setCell ⟨p.d, 7, none⟩ (.bool false)).setCell ⟨p.d, 6, none⟩ (.int .i64 (-1)) = w9 at *; have HW9 := Lib.hid hW9; clear hW9; clear h2)
          | fail "no arm")
        rw [HW9.out]
        refine wp_region_held_drew (S := fun w' => w'.cell? ⟨p.d, 0, none⟩ = some (.slice (some ⟨p.gk, 0, none⟩) D.many D.many) ∧ w'.cell? ⟨p.d, 1, none⟩ = some (.slice (some ⟨p.gn, 0, none⟩) D.many D.many)) (by kernel_rfl) ⟨q0, q1⟩ (fun hHeld => ?_)
        refine wpAnyH_take (i := 0) (v := ?_) rfl (by decide +kernel) (by decide +kernel) (by decide +kernel) (fun _ _ _ h => h) (Or.inl ⟨by rfl, ?_⟩) (by assumption) ?_
        rotate_left 1
        · (intro w hSw; (try dsimp only at hSw); go_simp; try (with_reducible rfl))
        try simp only [List.getElem_toArray, List.getElem_cons_zero, List.getElem_cons_succ, Act.put, List.setIfInBounds_toArray, List.set_cons_zero, List.set_cons_succ]
        refine wpAnyH_take (i := 1) (v := ?_) rfl (by decide +kernel) (by decide +kernel) (by decide +kernel) (fun _ _ _ h => h) (Or.inl ⟨by rfl, ?_⟩) (by assumption) ?_
        rotate_left 1
        · (intro w hSw; (try dsimp only at hSw); go_simp; try (with_reducible rfl))
        try simp only [List.getElem_toArray, List.getElem_cons_zero, List.getElem_cons_succ, Act.put, List.setIfInBounds_toArray, List.set_cons_zero, List.set_cons_succ]
        refine wpAnyH_take (i := 2) (v := ?_) rfl (by decide +kernel) (by decide +kernel) (by decide +kernel) (fun _ _ _ h => h) (Or.inl ⟨by rfl, ?_⟩) (by assumption) ?_
        rotate_left 1
        · (intro w hSw; (try dsimp only at hSw); go_simp; try (with_reducible rfl))
        try simp only [List.getElem_toArray, List.getElem_cons_zero, List.getElem_cons_succ, Act.put, List.setIfInBounds_toArray, List.set_cons_zero, List.set_cons_succ]
        refine wpAnyH_take (i := 3) (v := ?_) rfl (by decide +kernel) (by decide +kernel) (by decide +kernel) (fun _ _ _ h => h) (Or.inl ⟨by rfl, ?_⟩) (by assumption) ?_
        rotate_left 1
        · (intro w hSw; (try dsimp only at hSw); obtain ⟨s1, s2⟩ := hSw; go_simp; rfl)
        try simp only [List.getElem_toArray, List.getElem_cons_zero, List.getElem_cons_succ, Act.put, List.setIfInBounds_toArray, List.set_cons_zero, List.set_cons_succ]
        refine wpAnyH_take (i := 4) (v := ?_) rfl (by decide +kernel) (by decide +kernel) (by decide +kernel) (fun _ _ _ h => h) (Or.inl ⟨by rfl, ?_⟩) (by assumption) ?_
        rotate_left 1
        · (intro w hSw; (try dsimp only at hSw); go_simp; try (with_reducible rfl))
        try simp only [List.getElem_toArray, List.getElem_cons_zero, List.getElem_cons_succ, Act.put, List.setIfInBounds_toArray, List.set_cons_zero, List.set_cons_succ]
        refine wpAnyH_take (i := 5) (v := ?_) rfl (by decide +kernel) (by decide +kernel) (by decide +kernel) (fun _ _ _ h => h) (Or.inl ⟨by rfl, ?_⟩) (by assumption) ?_
        rotate_left 1
        · (intro w hSw; (try dsimp only at hSw); go_simp; try (with_reducible rfl))
        try simp only [List.getElem_toArray, List.getElem_cons_zero, List.getElem_cons_succ, Act.put, List.setIfInBounds_toArray, List.set_cons_zero, List.set_cons_succ]
        refine wpAnyH_take (i := 6) (v := ?_) rfl (by decide +kernel) (by decide +kernel) (by decide +kernel) (fun _ _ _ h => h) (Or.inl ⟨by rfl, ?_⟩) (by assumption) ?_
        rotate_left 1
        · (intro w hSw; (try dsimp only at hSw); go_simp; try (with_reducible rfl))
        try simp only [List.getElem_toArray, List.getElem_cons_zero, List.getElem_cons_succ, Act.put, List.setIfInBounds_toArray, List.set_cons_zero, List.set_cons_succ]
        refine wpAnyH_take (i := 7) (v := ?_) rfl (by decide +kernel) (by decide +kernel) (by decide +kernel) (fun _ _ _ h => h) (Or.inl ⟨by rfl, ?_⟩) (by assumption) ?_
        rotate_left 1
        · (intro w hSw; (try dsimp only at hSw); obtain ⟨s1, s2⟩ := hSw; go_simp; rfl)
        try simp only [List.getElem_toArray, List.getElem_cons_zero, List.getElem_cons_succ, Act.put, List.setIfInBounds_toArray, List.set_cons_zero, List.set_cons_succ]
        refine wpAnyH_ready (rs := [8]) (by decide +kernel) (by simp) ?_
        refine AllReadyH.cons rfl (fun K hK => ?_) AllReadyH.nil
        have H9d := Lib.hid (H9.out.drewN 1 : DiskAt w9.drew base p none 0 _)
        have hkl : ((crashK D.waits cs (D.kept, D.inuse) k).1.map bv).length = D.many * 128 := by rw [List.length_map]; exact H9.out.ok.kept
        refine step_copy_all rfl rfl Try.underlying114 Hi.out (c := D.many) (c' := D.many) rfl rfl H9d.out.bn H9d.out.bk (by rw [List.length_map]; exact H9.out.ok.now) hkl mem_bv ?_
        intro w10 hb10 hg10 hs10
        have h10 := H9d.out.turnNow (w' := w10) (Keep.one hg10) hb10 H9.out.ok.kept
        have H10 := Lib.hid h10
        have K10 : Keep (foot p (some ⟨ga, 0, none⟩)) w w10 := K9.out.drewD.trans (Keep.one hg10) (fun g _ e => .inr (.inr (.inl e)))
        obtain ⟨r0, r1, r2, r3, -, -, -, -, -⟩ := h10.cells
        clear h10 hHeld
        refine hK.out _ _ (⟨r0, r1⟩) (fun hHeld => ?_)
        clear hK K
        try simp only [List.getElem_toArray, List.getElem_cons_zero, List.getElem_cons_succ, Act.put, List.setIfInBounds_toArray, List.set_cons_zero, List.set_cons_succ]
        refine wpAnyH_done (by decide +kernel) ?_ _
        clear hHeld q0 q1
        go_wp2
        refine wp_region_held_drew (S := fun w' => w'.cell? ⟨p.d, 2, none⟩ = some (.slice (some ⟨p.gi, 0, none⟩) D.many D.many) ∧ w'.cell? ⟨p.d, 3, none⟩ = some (.slice (some ⟨p.gm, 0, none⟩) D.many D.many)) (by kernel_rfl) ⟨r2, r3⟩ (fun hHeld => ?_)
        refine wpAnyH_take (i := 0) (v := ?_) rfl (by decide +kernel) (by decide +kernel) (by decide +kernel) (fun _ _ _ h => h) (Or.inl ⟨by rfl, ?_⟩) (by assumption) ?_
        rotate_left 1
        · (intro w hSw; (try dsimp only at hSw); go_simp; try (with_reducible rfl))
        try simp only [List.getElem_toArray, List.getElem_cons_zero, List.getElem_cons_succ, Act.put, List.setIfInBounds_toArray, List.set_cons_zero, List.set_cons_succ]
        refine wpAnyH_take (i := 1) (v := ?_) rfl (by decide +kernel) (by decide +kernel) (by decide +kernel) (fun _ _ _ h => h) (Or.inl ⟨by rfl, ?_⟩) (by assumption) ?_
        rotate_left 1
        · (intro w hSw; (try dsimp only at hSw); go_simp; try (with_reducible rfl))
        try simp only [List.getElem_toArray, List.getElem_cons_zero, List.getElem_cons_succ, Act.put, List.setIfInBounds_toArray, List.set_cons_zero, List.set_cons_succ]
        refine wpAnyH_take (i := 2) (v := ?_) rfl (by decide +kernel) (by decide +kernel) (by decide +kernel) (fun _ _ _ h => h) (Or.inl ⟨by rfl, ?_⟩) (by assumption) ?_
        rotate_left 1
        · (intro w hSw; (try dsimp only at hSw); go_simp; try (with_reducible rfl))
        try simp only [List.getElem_toArray, List.getElem_cons_zero, List.getElem_cons_succ, Act.put, List.setIfInBounds_toArray, List.set_cons_zero, List.set_cons_succ]
        refine wpAnyH_take (i := 3) (v := ?_) rfl (by decide +kernel) (by decide +kernel) (by decide +kernel) (fun _ _ _ h => h) (Or.inl ⟨by rfl, ?_⟩) (by assumption) ?_
        rotate_left 1
        · (intro w hSw; (try dsimp only at hSw); obtain ⟨s1, s2⟩ := hSw; go_simp; rfl)
        try simp only [List.getElem_toArray, List.getElem_cons_zero, List.getElem_cons_succ, Act.put, List.setIfInBounds_toArray, List.set_cons_zero, List.set_cons_succ]
        refine wpAnyH_take (i := 4) (v := ?_) rfl (by decide +kernel) (by decide +kernel) (by decide +kernel) (fun _ _ _ h => h) (Or.inl ⟨by rfl, ?_⟩) (by assumption) ?_
        rotate_left 1
        · (intro w hSw; (try dsimp only at hSw); go_simp; try (with_reducible rfl))
        try simp only [List.getElem_toArray, List.getElem_cons_zero, List.getElem_cons_succ, Act.put, List.setIfInBounds_toArray, List.set_cons_zero, List.set_cons_succ]
        refine wpAnyH_take (i := 5) (v := ?_) rfl (by decide +kernel) (by decide +kernel) (by decide +kernel) (fun _ _ _ h => h) (Or.inl ⟨by rfl, ?_⟩) (by assumption) ?_
        rotate_left 1
        · (intro w hSw; (try dsimp only at hSw); go_simp; try (with_reducible rfl))
        try simp only [List.getElem_toArray, List.getElem_cons_zero, List.getElem_cons_succ, Act.put, List.setIfInBounds_toArray, List.set_cons_zero, List.set_cons_succ]
        refine wpAnyH_take (i := 6) (v := ?_) rfl (by decide +kernel) (by decide +kernel) (by decide +kernel) (fun _ _ _ h => h) (Or.inl ⟨by rfl, ?_⟩) (by assumption) ?_
        rotate_left 1
        · (intro w hSw; (try dsimp only at hSw); go_simp; try (with_reducible rfl))
        try simp only [List.getElem_toArray, List.getElem_cons_zero, List.getElem_cons_succ, Act.put, List.setIfInBounds_toArray, List.set_cons_zero, List.set_cons_succ]
        refine wpAnyH_take (i := 7) (v := ?_) rfl (by decide +kernel) (by decide +kernel) (by decide +kernel) (fun _ _ _ h => h) (Or.inl ⟨by rfl, ?_⟩) (by assumption) ?_
        rotate_left 1
        · (intro w hSw; (try dsimp only at hSw); obtain ⟨s1, s2⟩ := hSw; go_simp; rfl)
        try simp only [List.getElem_toArray, List.getElem_cons_zero, List.getElem_cons_succ, Act.put, List.setIfInBounds_toArray, List.set_cons_zero, List.set_cons_succ]
        refine wpAnyH_ready (rs := [8]) (by decide +kernel) (by simp) ?_
        refine AllReadyH.cons rfl (fun K hK => ?_) AllReadyH.nil
        have H10d := Lib.hid (H10.out.drewN 1 : DiskAt w10.drew base p none 0 _)
        refine step_copy_all rfl rfl Try.underlying115 HiB.out (c := D.many) (c' := D.many) rfl rfl H10d.out.bm H10d.out.bi (by rw [List.length_map, Nat.mul_one]; exact H10.out.ok.might) (by rw [List.length_map, Nat.mul_one]; exact H10.out.ok.inuse) mem_boolV ?_
        intro w11 hb11 hg11 hs11
        have h11 := H10d.out.turnMight (w' := w11) (Keep.one hg11) hb11 H10.out.ok.inuse
        have H11 := Lib.hid h11
        have K11 : Keep (foot p (some ⟨ga, 0, none⟩)) w w11 := K10.drewD.trans (Keep.one hg11) (fun g _ e => .inr (.inr (.inr (.inr (.inl e)))))
        obtain ⟨-, -, v2, v3, -, -, -, -, -⟩ := h11.cells
        clear h11
        refine hK.out _ _ (⟨v2, v3⟩) (fun hHeld => ?_)
        clear hK K
        try simp only [List.getElem_toArray, List.getElem_cons_zero, List.getElem_cons_succ, Act.put, List.setIfInBounds_toArray, List.set_cons_zero, List.set_cons_succ]
        refine wpAnyH_done (by decide +kernel) ?_ _
        go_wp2
        go_end0
        exact CrPost.mk hkk.out H11.out K11
    · have hkk : Hid (k = min D.waits.length cs.length) := by show _ = _; have := hlen.out; omega
      have f4 := (hX).st.frozen 4; have f6 := (hX).st.frozen 6; have f7 := (hX).st.frozen 7; obtain ⟨-, -, -, -, c4, -, c6, c7, -⟩ := (hX).cells; have h9 := ((DiskAt.noWaits (hX)).setOff false).setCut (-1) (by omega); have H9 := Lib.hid h9; have k9 : Keep (foot p A) w (((wr.setCell ⟨p.d, 4, none⟩ (.slice none 0 0)).setCell ⟨p.d, 7, none⟩ (.bool false)).setCell ⟨p.d, 6, none⟩ (.int .i64 (-1))) := ((((kw).set_ _ (.inl rfl)).set_ _ (.inl rfl)).set_ _ (.inl rfl)); have K9 := Lib.hid k9; obtain ⟨q0, q1, -, -, -, -, -, -, -⟩ := h9.cells; clear h9 k9; generalize hW9 : ((wr.setCell ⟨p.d, 4, none⟩ (.slice none 0 0)).setCell ⟨p.d, 7, none⟩ (.bool false)).setCell ⟨p.d, 6, none⟩ (.int .i64 (-1)) = w9 at *; have HW9 := Lib.hid hW9; clear hW9
      clear hX
      go_wp2
      rw [HW9.out]
      refine wp_region_held_drew (S := fun w' => w'.cell? ⟨p.d, 0, none⟩ = some (.slice (some ⟨p.gk, 0, none⟩) D.many D.many) ∧ w'.cell? ⟨p.d, 1, none⟩ = some (.slice (some ⟨p.gn, 0, none⟩) D.many D.many)) (by kernel_rfl) ⟨q0, q1⟩ (fun hHeld => ?_)
      refine wpAnyH_take (i := 0) (v := ?_) rfl (by decide +kernel) (by decide +kernel) (by decide +kernel) (fun _ _ _ h => h) (Or.inl ⟨by rfl, ?_⟩) (by assumption) ?_
      rotate_left 1
      · (intro w hSw; (try dsimp only at hSw); go_simp; try (with_reducible rfl))
      try simp only [List.getElem_toArray, List.getElem_cons_zero, List.getElem_cons_succ, Act.put, List.setIfInBounds_toArray, List.set_cons_zero, List.set_cons_succ]
      refine wpAnyH_take (i := 1) (v := ?_) rfl (by decide +kernel) (by decide +kernel) (by decide +kernel) (fun _ _ _ h => h) (Or.inl ⟨by rfl, ?_⟩) (by assumption) ?_
      rotate_left 1
      · (intro w hSw; (try dsimp only at hSw); go_simp; try (with_reducible rfl))
      try simp only [List.getElem_toArray, List.getElem_cons_zero, List.getElem_cons_succ, Act.put, List.setIfInBounds_toArray, List.set_cons_zero, List.set_cons_succ]
      refine wpAnyH_take (i := 2) (v := ?_) rfl (by decide +kernel) (by decide +kernel) (by decide +kernel) (fun _ _ _ h => h) (Or.inl ⟨by rfl, ?_⟩) (by assumption) ?_
      rotate_left 1
      · (intro w hSw; (try dsimp only at hSw); go_simp; try (with_reducible rfl))
      try simp only [List.getElem_toArray, List.getElem_cons_zero, List.getElem_cons_succ, Act.put, List.setIfInBounds_toArray, List.set_cons_zero, List.set_cons_succ]
      refine wpAnyH_take (i := 3) (v := ?_) rfl (by decide +kernel) (by decide +kernel) (by decide +kernel) (fun _ _ _ h => h) (Or.inl ⟨by rfl, ?_⟩) (by assumption) ?_
      rotate_left 1
      · (intro w hSw; (try dsimp only at hSw); obtain ⟨s1, s2⟩ := hSw; go_simp; rfl)
      try simp only [List.getElem_toArray, List.getElem_cons_zero, List.getElem_cons_succ, Act.put, List.setIfInBounds_toArray, List.set_cons_zero, List.set_cons_succ]
      refine wpAnyH_take (i := 4) (v := ?_) rfl (by decide +kernel) (by decide +kernel) (by decide +kernel) (fun _ _ _ h => h) (Or.inl ⟨by rfl, ?_⟩) (by assumption) ?_
      rotate_left 1
      · (intro w hSw; (try dsimp only at hSw); go_simp; try (with_reducible rfl))
      try simp only [List.getElem_toArray, List.getElem_cons_zero, List.getElem_cons_succ, Act.put, List.setIfInBounds_toArray, List.set_cons_zero, List.set_cons_succ]
      refine wpAnyH_take (i := 5) (v := ?_) rfl (by decide +kernel) (by decide +kernel) (by decide +kernel) (fun _ _ _ h => h) (Or.inl ⟨by rfl, ?_⟩) (by assumption) ?_
      rotate_left 1
      · (intro w hSw; (try dsimp only at hSw); go_simp; try (with_reducible rfl))
      try simp only [List.getElem_toArray, List.getElem_cons_zero, List.getElem_cons_succ, Act.put, List.setIfInBounds_toArray, List.set_cons_zero, List.set_cons_succ]
      refine wpAnyH_take (i := 6) (v := ?_) rfl (by decide +kernel) (by decide +kernel) (by decide +kernel) (fun _ _ _ h => h) (Or.inl ⟨by rfl, ?_⟩) (by assumption) ?_
      rotate_left 1
      · (intro w hSw; (try dsimp only at hSw); go_simp; try (with_reducible rfl))
      try simp only [List.getElem_toArray, List.getElem_cons_zero, List.getElem_cons_succ, Act.put, List.setIfInBounds_toArray, List.set_cons_zero, List.set_cons_succ]
      refine wpAnyH_take (i := 7) (v := ?_) rfl (by decide +kernel) (by decide +kernel) (by decide +kernel) (fun _ _ _ h => h) (Or.inl ⟨by rfl, ?_⟩) (by assumption) ?_
      rotate_left 1
      · (intro w hSw; (try dsimp only at hSw); obtain ⟨s1, s2⟩ := hSw; go_simp; rfl)
      try simp only [List.getElem_toArray, List.getElem_cons_zero, List.getElem_cons_succ, Act.put, List.setIfInBounds_toArray, List.set_cons_zero, List.set_cons_succ]
      refine wpAnyH_ready (rs := [8]) (by decide +kernel) (by simp) ?_
      refine AllReadyH.cons rfl (fun K hK => ?_) AllReadyH.nil
      have H9d := Lib.hid (H9.out.drewN 1 : DiskAt w9.drew base p none 0 _)
      have hkl : ((crashK D.waits cs (D.kept, D.inuse) k).1.map bv).length = D.many * 128 := by rw [List.length_map]; exact H9.out.ok.kept
      refine step_copy_all rfl rfl Try.underlying114 Hi.out (c := D.many) (c' := D.many) rfl rfl H9d.out.bn H9d.out.bk (by rw [List.length_map]; exact H9.out.ok.now) hkl mem_bv ?_
      intro w10 hb10 hg10 hs10
      have h10 := H9d.out.turnNow (w' := w10) (Keep.one hg10) hb10 H9.out.ok.kept
      have H10 := Lib.hid h10
      have K10 : Keep (foot p A) w w10 := K9.out.drewD.trans (Keep.one hg10) (fun g _ e => .inr (.inr (.inl e)))
      obtain ⟨r0, r1, r2, r3, -, -, -, -, -⟩ := h10.cells
      clear h10 hHeld
      refine hK.out _ _ (⟨r0, r1⟩) (fun hHeld => ?_)
      clear hK K
      try simp only [List.getElem_toArray, List.getElem_cons_zero, List.getElem_cons_succ, Act.put, List.setIfInBounds_toArray, List.set_cons_zero, List.set_cons_succ]
      refine wpAnyH_done (by decide +kernel) ?_ _
      clear hHeld q0 q1
      go_wp2
      refine wp_region_held_drew (S := fun w' => w'.cell? ⟨p.d, 2, none⟩ = some (.slice (some ⟨p.gi, 0, none⟩) D.many D.many) ∧ w'.cell? ⟨p.d, 3, none⟩ = some (.slice (some ⟨p.gm, 0, none⟩) D.many D.many)) (by kernel_rfl) ⟨r2, r3⟩ (fun hHeld => ?_)
      refine wpAnyH_take (i := 0) (v := ?_) rfl (by decide +kernel) (by decide +kernel) (by decide +kernel) (fun _ _ _ h => h) (Or.inl ⟨by rfl, ?_⟩) (by assumption) ?_
      rotate_left 1
      · (intro w hSw; (try dsimp only at hSw); go_simp; try (with_reducible rfl))
      try simp only [List.getElem_toArray, List.getElem_cons_zero, List.getElem_cons_succ, Act.put, List.setIfInBounds_toArray, List.set_cons_zero, List.set_cons_succ]
      refine wpAnyH_take (i := 1) (v := ?_) rfl (by decide +kernel) (by decide +kernel) (by decide +kernel) (fun _ _ _ h => h) (Or.inl ⟨by rfl, ?_⟩) (by assumption) ?_
      rotate_left 1
      · (intro w hSw; (try dsimp only at hSw); go_simp; try (with_reducible rfl))
      try simp only [List.getElem_toArray, List.getElem_cons_zero, List.getElem_cons_succ, Act.put, List.setIfInBounds_toArray, List.set_cons_zero, List.set_cons_succ]
      refine wpAnyH_take (i := 2) (v := ?_) rfl (by decide +kernel) (by decide +kernel) (by decide +kernel) (fun _ _ _ h => h) (Or.inl ⟨by rfl, ?_⟩) (by assumption) ?_
      rotate_left 1
      · (intro w hSw; (try dsimp only at hSw); go_simp; try (with_reducible rfl))
      try simp only [List.getElem_toArray, List.getElem_cons_zero, List.getElem_cons_succ, Act.put, List.setIfInBounds_toArray, List.set_cons_zero, List.set_cons_succ]
      refine wpAnyH_take (i := 3) (v := ?_) rfl (by decide +kernel) (by decide +kernel) (by decide +kernel) (fun _ _ _ h => h) (Or.inl ⟨by rfl, ?_⟩) (by assumption) ?_
      rotate_left 1
      · (intro w hSw; (try dsimp only at hSw); obtain ⟨s1, s2⟩ := hSw; go_simp; rfl)
      try simp only [List.getElem_toArray, List.getElem_cons_zero, List.getElem_cons_succ, Act.put, List.setIfInBounds_toArray, List.set_cons_zero, List.set_cons_succ]
      refine wpAnyH_take (i := 4) (v := ?_) rfl (by decide +kernel) (by decide +kernel) (by decide +kernel) (fun _ _ _ h => h) (Or.inl ⟨by rfl, ?_⟩) (by assumption) ?_
      rotate_left 1
      · (intro w hSw; (try dsimp only at hSw); go_simp; try (with_reducible rfl))
      try simp only [List.getElem_toArray, List.getElem_cons_zero, List.getElem_cons_succ, Act.put, List.setIfInBounds_toArray, List.set_cons_zero, List.set_cons_succ]
      refine wpAnyH_take (i := 5) (v := ?_) rfl (by decide +kernel) (by decide +kernel) (by decide +kernel) (fun _ _ _ h => h) (Or.inl ⟨by rfl, ?_⟩) (by assumption) ?_
      rotate_left 1
      · (intro w hSw; (try dsimp only at hSw); go_simp; try (with_reducible rfl))
      try simp only [List.getElem_toArray, List.getElem_cons_zero, List.getElem_cons_succ, Act.put, List.setIfInBounds_toArray, List.set_cons_zero, List.set_cons_succ]
      refine wpAnyH_take (i := 6) (v := ?_) rfl (by decide +kernel) (by decide +kernel) (by decide +kernel) (fun _ _ _ h => h) (Or.inl ⟨by rfl, ?_⟩) (by assumption) ?_
      rotate_left 1
      · (intro w hSw; (try dsimp only at hSw); go_simp; try (with_reducible rfl))
      try simp only [List.getElem_toArray, List.getElem_cons_zero, List.getElem_cons_succ, Act.put, List.setIfInBounds_toArray, List.set_cons_zero, List.set_cons_succ]
      refine wpAnyH_take (i := 7) (v := ?_) rfl (by decide +kernel) (by decide +kernel) (by decide +kernel) (fun _ _ _ h => h) (Or.inl ⟨by rfl, ?_⟩) (by assumption) ?_
      rotate_left 1
      · (intro w hSw; (try dsimp only at hSw); obtain ⟨s1, s2⟩ := hSw; go_simp; rfl)
      try simp only [List.getElem_toArray, List.getElem_cons_zero, List.getElem_cons_succ, Act.put, List.setIfInBounds_toArray, List.set_cons_zero, List.set_cons_succ]
      refine wpAnyH_ready (rs := [8]) (by decide +kernel) (by simp) ?_
      refine AllReadyH.cons rfl (fun K hK => ?_) AllReadyH.nil
      have H10d := Lib.hid (H10.out.drewN 1 : DiskAt w10.drew base p none 0 _)
      refine step_copy_all rfl rfl Try.underlying115 HiB.out (c := D.many) (c' := D.many) rfl rfl H10d.out.bm H10d.out.bi (by rw [List.length_map, Nat.mul_one]; exact H10.out.ok.might) (by rw [List.length_map, Nat.mul_one]; exact H10.out.ok.inuse) mem_boolV ?_
      intro w11 hb11 hg11 hs11
      have h11 := H10d.out.turnMight (w' := w11) (Keep.one hg11) hb11 H10.out.ok.inuse
      have H11 := Lib.hid h11
      have K11 : Keep (foot p A) w w11 := K10.drewD.trans (Keep.one hg11) (fun g _ e => .inr (.inr (.inr (.inr (.inl e)))))
      obtain ⟨-, -, v2, v3, -, -, -, -, -⟩ := h11.cells
      clear h11
      refine hK.out _ _ (⟨v2, v3⟩) (fun hHeld => ?_)
      clear hK K
      try simp only [List.getElem_toArray, List.getElem_cons_zero, List.getElem_cons_succ, Act.put, List.setIfInBounds_toArray, List.set_cons_zero, List.set_cons_succ]
      refine wpAnyH_done (by decide +kernel) ?_ _
      go_wp2
      go_end0
      exact CrPost.mk hkk.out H11.out K11
end
end Go.Proofs.Ytalmdccgpigppaa
