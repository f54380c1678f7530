/- Parts: DiskD. -/
import Derived.Test.YtalmdccgpigppaaPr19
import Derived.Test.YtalmdccgpigppaaPr01
namespace Go.Proofs.Ytalmdccgpigppaa
open Go.RowKit
set_option linter.unusedVariables false
set_option linter.unusedSimpArgs false
section
variable {w : World} {base : Nat} {p : DiskP} {A : Option Addr} {c : Nat} {D : DiskV}
theorem pieceV_len (p : Nat × List UInt8) (h : p.2.length = 128) : (pieceV p).length = 129 := by simp [pieceV, h]
theorem elemPiece : ElemOf Try.prog 116 130 (.agg (pieceV (0, zerosL)).toArray) 129 136 := ElemOf.mk' Try.underlying116 (by kernel_rfl) (by simp [Value.cells, pieceV, zerosL_len]) (by decide)
theorem RdS.of_cells {α : Type} {size g : Nat} {enc : α → List Value} {w : World} {cs : Array Value} {t : TypeId} {fr : Nat × Nat} (hg : w.heap[g]? = some (.cells cs t fr)) {l : List α} (hl : (l.flatMap enc).length = l.length * size) (h : cs.toList = l.flatMap enc) : RdS size enc w (some ⟨g, 0, none⟩) l.length l :=
  ⟨rfl, hl, Row.of_block hg 0 fun i hi => by
    rw [Nat.zero_add, ← Array.getElem?_toList, h, List.getD_eq_getElem?_getD, List.getElem?_eq_getElem (by rw [hl]; exact hi)]; rfl⟩
theorem pieceV_one (x : Nat × List UInt8) : ∀ u ∈ pieceV x, u.oneCell' = true := by
  intro u hu
  simp only [pieceV, List.mem_cons] at hu
  rcases hu with rfl | hu
  · rfl
  · exact mem_bv u hu
theorem DiskAt.waS (h : DiskAt w base p A c D) : OwS 129 pieceV w base 130 A D.waits.length c D.waits := ⟨rfl, h.wa⟩
/-- A disk behind a call that may have made its row of pieces anew. -/
def DiskNext (w : World) (base : Nat) (p : DiskP) (A : Option Addr) (D' : DiskV) (w' : World) : Prop :=
  ∃ A' c', DiskAt w' base p A' c' D' ∧ Keep (foot p A) w w' ∧ (∀ g, A'.map (·.block) = some g → A.map (·.block) = some g ∨ w.heap.size ≤ g)
def cutE (D : DiskV) : Int := if D.cut = 0 then 50 else 0
def WrPost (w : World) (base : Nat) (p : DiskP) (A : Option Addr) (D : DiskV) (n : Int) (b : List UInt8) (e : Ending) (w' : World) : Prop := e = .returned (.int .i64 (cutE D)) ∧ DiskNext w base p A (goesV (putD D n b) 2) w'
theorem WrPost.mk {w w' : World} {n : Int} {b : List UInt8} {z : Int} {A' : Option Addr} {c' : Nat} (hz : cutE D = z) (h : DiskAt w' base p A' c' (goesV (putD D n b) 2)) (k : Keep (foot p A) w w') (hn : ∀ g, A'.map (·.block) = some g → A.map (·.block) = some g ∨ w.heap.size ≤ g) : WrPost w base p A D n b (.returned (.int .i64 z)) w' :=
  ⟨by rw [hz], A', c', h, k, hn⟩
theorem okWaits {D : DiskV} (h : D.Ok) {x : Nat × List UInt8} (hx : x.1 < D.many ∧ x.2.length = 128) (hw : D.waits.length < 1000000) : ({ D with waits := D.waits ++ [x] } : DiskV).Ok :=
  ⟨h.many0, h.many1, h.kept, h.now, h.inuse, h.might, fun p hp => (by
    rcases List.mem_append.1 hp with q | q
    · exact h.waits p q
    · obtain rfl : p = x := by simpa using q
      exact hx), h.room, h.cut, (by simp; omega)⟩
/-- One piece more waits: the row may have grown in place. -/
theorem DiskAt.turnWaits {w5 : World} {A5 : Option Addr} {c5 : Nat} {x : Nat × List UInt8} (h : DiskAt w base p A c D) (k : Keep (fun g => A.map (·.block) = some g) w w5) (ho : OwS 129 pieceV w5 base 130 A5 (D.waits.length + 1) c5 (D.waits ++ [x])) (hx : x.1 < D.many ∧ x.2.length = 128) (hw : D.waits.length < 1000000) :
    DiskAt (w5.setCell ⟨p.d, 4, none⟩ (.slice A5 (D.waits.length + 1) c5)) base p A5 c5 { D with waits := D.waits ++ [x] } := by
  have hA : ∀ g, A.map (·.block) = some g → (Value.slice A D.waits.length c).ownBlock = some g := fun g e => by cases A with | none => cases e | some a => simpa [Value.ownBlock] using e
  have hne : ∀ {g : Nat} {t : TypeId} {cs : List Value}, Blk w g t cs → 130 ≠ t → ¬ A.map (·.block) = some g := fun hg hne e => own_ne h.wa hg hne (hA _ e)
  have hst5 : Blk w5 p.d 119 (dcells p A c D) := h.st.keep k (hne h.st (by decide))
  have k2 : Keep (fun g => A.map (·.block) = some g ∨ g = p.d) w (w5.setCell ⟨p.d, 4, none⟩ (.slice A5 (D.waits.length + 1) c5)) := (k.mono (fun _ _ e => .inl e)).set_ _ (.inr rfl)
  have n : ∀ {g : Nat} {t : TypeId} {cs : List Value}, Blk w g t cs → 130 ≠ t → 119 ≠ t → ¬ (A.map (·.block) = some g ∨ g = p.d) := fun hg h1 h2 e => by
    rcases e with e | e
    · exact hne hg h1 e
    · exact (h.st.ne_ hg h2) e.symm
  refine ⟨okWaits h.ok hx hw, ?_, h.bk.keep k2 (n h.bk (by decide) (by decide)), h.bn.keep k2 (n h.bn (by decide) (by decide)), h.bi.keep k2 (n h.bi (by decide) (by decide)), h.bm.keep k2 (n h.bm (by decide) (by decide)), ⟨h.mt.1, h.mt.2.keep k2 (n h.mt.2 (by decide) (by decide))⟩, ?_, h.ne1, h.ne2, fun g hg => ?_⟩
  · have := hst5.set_ 4 (.slice A5 (D.waits.length + 1) c5)
    unfold dcells at this ⊢
    simpa using this
  · have e : (D.waits ++ [x]).length = D.waits.length + 1 := by simp
    show World.ownsRow _ base 130 129 (.slice A5 (D.waits ++ [x]).length c5) (D.waits ++ [x]).length (piecesV (D.waits ++ [x]))
    rw [e]
    exact (OwS.setFar ho hst5 (by decide) 4 _).2
  · rcases hg with e | e | e | e | e | e | e
    · exact h.bs g (.inl e)
    · exact h.bs g (.inr (.inl e))
    · exact h.bs g (.inr (.inr (.inl e)))
    · exact h.bs g (.inr (.inr (.inr (.inl e))))
    · exact h.bs g (.inr (.inr (.inr (.inr (.inl e)))))
    · exact h.bs g (.inr (.inr (.inr (.inr (.inr (.inl e))))))
    · exact (ho.2.lt g (by cases A5 with | none => cases e | some a => simpa [Value.ownBlock] using e)).1
theorem fold_set (S : List Value) : ∀ (j : Nat) (arr : Array Value), 1 + j + S.length ≤ arr.size → List.foldl (fun cs (x : Value × Nat) => cs.setIfInBounds (1 + x.2) x.1) arr (S.zipIdx j) = (splice arr.toList (1 + j) S).toArray := by
  induction S with
  | nil => intro j arr h; simp [splice]
  | cons s S ih =>
    intro j arr h
    rw [List.zipIdx_cons, List.foldl_cons, ih (j + 1) _ (by simp at h ⊢; omega), Array.toList_setIfInBounds, show 1 + (j + 1) = 1 + j + 1 by omega, splice_cons _ _ _ _ (by simp at h ⊢; omega)]
theorem build_piece (S : List Value) (v : Value) (hS : S.length = 128) : List.foldl (fun cs (x : Value × Nat) => cs.setIfInBounds (1 + x.2) x.1) (Try.zeroCells130.setIfInBounds 0 v) S.zipIdx = (v :: S).toArray := by
  have hz : Try.zeroCells130.size = 129 := by kernel_rfl
  rw [fold_set S 0 _ (by simp [hz, hS])]
  have e : ∀ (a : Array Value), a.size = 129 → splice (a.setIfInBounds 0 v).toList (1 + 0) S = v :: S := fun a ha => by
    obtain ⟨l⟩ := a
    simp at ha
    cases l with
    | nil => simp at ha
    | cons x l =>
      simp only [splice, Array.toList_setIfInBounds, List.set_cons_zero, Nat.add_zero, List.take_succ_cons, List.take_zero, List.singleton_append, hS]
      rw [List.drop_of_length_le (by simp; simp at ha; omega), List.append_nil]
  rw [e _ hz]
theorem fold_all (S : List Value) : ∀ (j : Nat) (arr : Array Value), j + S.length ≤ arr.size → List.foldl (fun cs (x : Value × Nat) => cs.setIfInBounds x.2 x.1) arr (S.zipIdx j) = (splice arr.toList j S).toArray := by
  induction S with
  | nil => intro j arr h; simp [splice]
  | cons s S ih =>
    intro j arr h
    rw [List.zipIdx_cons, List.foldl_cons, ih (j + 1) _ (by simp at h ⊢; omega), Array.toList_setIfInBounds, splice_cons _ _ _ _ (by simp at h ⊢; omega)]
set_option maxRecDepth 100000 in
set_option maxHeartbeats 20000000 in
theorem write_ok (h : DiskAt w base p A c D) (n : Int) (b : List UInt8) (hb : b.length = 128) (hn : mayV D n = 0) (hf : fullB D n = false) (hw : D.waits.length < 1000000) (hbase : base ≤ w.heap.size) :
    Calls Try.prog 110 #[.pointer (some ⟨p.d, 0, none⟩), .int .i64 n, aggB b] w (WrPost w base p A D n b) := by
  have hmay : ∀ o, Calls Try.prog 111 #[.pointer (some ⟨p.d, 0, none⟩), .int .i64 n] (w.alloc o) fun e w' => e = .returned (.int .i64 (mayV D n)) ∧ (w.alloc o) = w' := fun o => may_any (h.alloc o) n
  rw [hn] at hmay
  obtain ⟨_, h0, h1⟩ := mayV_zero hn
  obtain ⟨k, rfl⟩ : ∃ k : Nat, n = (k : Int) := ⟨n.toNat, by omega⟩
  have hk : k < D.many := by omega
  have hl8 := h.st.lt
  have hl7 := h.bm.lt
  have hl6 := h.bn.lt
  have hH := Lib.hid h
  have hleft : ∀ o, Calls Try.prog 134 #[.pointer (some ⟨p.d, 0, none⟩)] (w.alloc o) fun e w' => e = .returned (.int .i64 (D.room - (trues D.might : Nat))) ∧ (w.alloc o) = w' := fun o => left_any (h.alloc o)
  have cm := boolCell h.bm k (by rw [h.ok.might]; exact hk)
  have c3 := h.cells.2.2.2.1
  have c4 := h.cells.2.2.2.2.1
  have c1 := h.cells.2.1
  have hsm : Hid (∀ v ∈ b.map bv, v.oneCell' = true) := mem_bv
  have hlb : Hid ((b.map bv).length = 128) := by show _ = _; simp [hb]
  have hbk := Lib.hid (Blk.new w 128 (b.map bv))
  have Hi := Lib.hid (zero_of_info zero128).2
  have hmany := h.ok.many1
  have hb0 := hb
  unfold aggB
  generalize hB : b.map bv = S at *
  have HB := Lib.hid hB
  have hbl := Lib.hid hb0
  have hAd := h.nd.2.2.2.2.2
  have hstw := h.st
  clear hb0
  obtain ⟨V, hV⟩ : ∃ V, (Value.int .i64 (k : Int) :: S) = V := ⟨_, rfl⟩
  have hVl : Hid (V.length = 129) := by show _ = _; rw [← hV, List.length_cons, hlb.out]
  have hVp : Hid (V = pieceV (k, b)) := by show _ = _; rw [← hV, ← hB]; rfl
  have HV := Lib.hid hV
  clear hV
  unfold fullB at hf
  rw [Int.toNat_natCast] at hf
  clear h hn hB hb
  have goal1 : ∀ (mg : Bool), D.might.getD k false = mg → True := fun _ _ => trivial
  clear goal1
  generalize D.might.getD k false = mg at *
  cases mg with
  | true =>
    clear hf
    go_enter Try.func110, Try.ntmps110
    go_wp2_with (first
      | (go_at_call 111; (with_reducible refine (hmay _).mono ?_); rintro e w1 ⟨rfl, rfl⟩)
      | (go_at_call 134; (with_reducible refine (hleft _).mono ?_); rintro e w1 ⟨rfl, rfl⟩)
      | fail "no arm")
    refine wp_region_held_drew (S := fun w' => w'.rangeAt w.heap.size 0 S) (by kernel_rfl) (hbk.out.drew.range (n := 128) (by rw [List.drop_zero, List.take_of_length_le (by rw [hlb.out]; omega)])) (fun hHeld => ?_)
    refine wpAnyH_take (i := 0) (v := ?_) rfl (by decide +kernel) (by decide +kernel) (by decide +kernel) (fun _ _ _ h => h) (Or.inl ⟨by rfl, ?_⟩) (by assumption) ?_
    rotate_left 1
    · (intro w hSw; (try dsimp only at hSw); go_simp; try (with_reducible rfl))
    try simp only [List.getElem_toArray, List.getElem_cons_zero, List.getElem_cons_succ, Act.put, List.setIfInBounds_toArray, List.set_cons_zero, List.set_cons_succ]
    refine wpAnyH_take (i := 1) (v := ?_) rfl (by decide +kernel) (by decide +kernel) (by decide +kernel) (fun _ _ _ h => h) (Or.inl ⟨by rfl, ?_⟩) (by assumption) ?_
    rotate_left 1
    · (intro w hSw; (try dsimp only at hSw); go_simp; try (with_reducible rfl))
    try simp only [List.getElem_toArray, List.getElem_cons_zero, List.getElem_cons_succ, Act.put, List.setIfInBounds_toArray, List.set_cons_zero, List.set_cons_succ]
    refine wpAnyH_take (i := 2) (v := ?_) rfl (by decide +kernel) (by decide +kernel) (by decide +kernel) (fun _ _ _ h => h) (Or.inl ⟨by rfl, ?_⟩) (by assumption) ?_
    rotate_left 1
    · (intro w hSw; (try dsimp only at hSw); go_simp; try (with_reducible rfl))
    try simp only [List.getElem_toArray, List.getElem_cons_zero, List.getElem_cons_succ, Act.put, List.setIfInBounds_toArray, List.set_cons_zero, List.set_cons_succ]
    refine wpAnyH_take (i := 3) (v := ?_) rfl (by decide +kernel) (by decide +kernel) (by decide +kernel) (fun _ _ _ h => h) (Or.inl ⟨by rfl, ?_⟩) (by assumption) ?_
    rotate_left 1
    · (intro w hSw; (try dsimp only at hSw); go_simp; try (with_reducible rfl))
    try simp only [List.getElem_toArray, List.getElem_cons_zero, List.getElem_cons_succ, Act.put, List.setIfInBounds_toArray, List.set_cons_zero, List.set_cons_succ]
    refine wpAnyH_take (i := 5) (v := ?_) rfl (by decide +kernel) (by decide +kernel) (by decide +kernel) (fun _ _ _ h => h) (Or.inl ⟨by rfl, ?_⟩) (by assumption) ?_
    rotate_left 1
    · (intro w hSw; (try dsimp only at hSw); go_simp; try (with_reducible rfl))
    try simp only [List.getElem_toArray, List.getElem_cons_zero, List.getElem_cons_succ, Act.put, List.setIfInBounds_toArray, List.set_cons_zero, List.set_cons_succ]
    refine wpAnyH_take (i := 6) (v := _) rfl (by decide +kernel) (by decide +kernel) (by decide +kernel) (fun _ _ _ h => h) (yieldsIf_load_mid (by rfl) _ _ rfl _ _ rfl S _ (fun _ h => h) Try.underlying128 rfl (by rw [hlb.out]; exact Hi.out)) (by assumption) ?_
    try simp only [List.getElem_toArray, List.getElem_cons_zero, List.getElem_cons_succ, Act.put, List.setIfInBounds_toArray, List.set_cons_zero, List.set_cons_succ]
    refine wpAnyH_take (i := 7) (v := ?_) rfl (by decide +kernel) (by decide +kernel) (by decide +kernel) (fun _ _ _ h => h) (Or.inl ⟨by rfl, ?_⟩) (by assumption) ?_
    rotate_left 1
    · (intro w hSw; (try dsimp only at hSw); have hl9 := hlb.out; go_simp; rw [build_piece _ _ hl9, HV.out])
    try simp only [List.getElem_toArray, List.getElem_cons_zero, List.getElem_cons_succ, Act.put, List.setIfInBounds_toArray, List.set_cons_zero, List.set_cons_succ]
    refine wpAnyH_ready (rs := [4, 8]) (by decide +kernel) (by simp) ?_
    refine AllReadyH.cons rfl (fun K hK => ?_) (AllReadyH.cons rfl (fun K hK => ?_) AllReadyH.nil)
    · go_simp
      refine hK.out _ _ (hHeld) (fun hHeld => ?_)
      clear hK K
      try simp only [List.getElem_toArray, List.getElem_cons_zero, List.getElem_cons_succ, Act.put, List.setIfInBounds_toArray, List.set_cons_zero, List.set_cons_succ]
      refine wpAnyH_ready (rs := [8]) (by decide +kernel) (by simp) ?_
      refine AllReadyH.cons rfl (fun K hK => ?_) AllReadyH.nil
      have hl9 := hVl.out
      go_simp
      rw [fold_all V 0 _ (by rw [hl9]; exact Nat.le_of_eq rfl), splice_all _ _ (by rw [hl9]; rfl)]
      refine hK.out _ _ (fun j v hv => World.rangeAt_alloc hHeld _ j v hv) (fun hHeld => ?_)
      clear hK K
      try simp only [List.getElem_toArray, List.getElem_cons_zero, List.getElem_cons_succ, Act.put, List.setIfInBounds_toArray, List.set_cons_zero, List.set_cons_succ]
      refine wpAnyH_ready (rs := [9]) (by decide +kernel) (by simp) ?_
      refine AllReadyH.cons rfl (fun K hK => ?_) AllReadyH.nil
      refine step_appS rfl rfl elemPiece pieceV_one (s := .tmp 31) (N := D.waits.length + 1) (L := D.waits ++ [(k, b)]) rfl (hH.out.waS.below (b := w.heap.size) (by (repeat' (first | (with_reducible exact Below.refl _ _) | (with_reducible assumption) | (with_reducible refine Below.drew ?_) | (with_reducible refine below_drewN ?_ _) | (with_reducible refine Below.alloc ?_ ?_ _) | (with_reducible refine Below.setCell ?_ ?_ _) | omega | (simp; done) | (simp; omega)))) (Nat.le_refl _)) rfl (k := [(k, b)]) (RdS.of_cells (g := w.heap.size + 1) (cs := V.toArray) (t := 130) (heap_top _ _ (by simp)) (by simp [pieceV, hbl.out]) (by rw [hVp.out]; simp)) rfl rfl (by unfold maxLen; omega) (by omega) (by simp; omega) ?_
      intro A5 c5 w5 hown5 hg5 hat5 hb5
      have hst5 : Blk w5 p.d 119 (dcells p A c D) := Blk.grown (by (repeat' (first | (with_reducible assumption) | (with_reducible refine Blk.top _ (by first | rfl | omega | (simp; done) | (simp; omega)) rfl) | (with_reducible refine Blk.alloc ?_ _) | (with_reducible refine Blk.drew ?_) | (with_reducible refine Blk.drewN ?_ _) | (with_reducible refine Blk.far ?_ (by first | omega | (simp; done) | (simp; omega)) _)))) hg5 hAd
      have hbx5 : Blk w5 w.heap.size 128 S := Blk.grown (by (repeat' (first | (with_reducible assumption) | (with_reducible refine Blk.top _ (by first | rfl | omega | (simp; done) | (simp; omega)) rfl) | (with_reducible refine Blk.alloc ?_ _) | (with_reducible refine Blk.drew ?_) | (with_reducible refine Blk.drewN ?_ _) | (with_reducible refine Blk.far ?_ (by first | omega | (simp; done) | (simp; omega)) _)))) hg5 (fun e => by have := hH.out.wa.lt _ (show (Value.slice A D.waits.length c).ownBlock = some w.heap.size by cases A with | none => cases e | some a => simpa [Value.ownBlock] using e); omega)
      have d54 : w5.cell? ⟨p.d, 4, none⟩ = some (.slice A D.waits.length c) := hst5.cell 4
      have f54 := hst5.frozen 4
      refine hK.out _ _ (hbx5.range (n := 128) (by rw [List.drop_zero, List.take_of_length_le (by rw [hlb.out]; omega)])) (fun hHeld => ?_)
      clear hK K
      try simp only [List.getElem_toArray, List.getElem_cons_zero, List.getElem_cons_succ, Act.put, List.setIfInBounds_toArray, List.set_cons_zero, List.set_cons_succ]
      refine wpAnyH_take (i := 10) (v := ?_) rfl (by decide +kernel) (by decide +kernel) (by decide +kernel) (fun _ _ _ h => h) (Or.inl ⟨by rfl, ?_⟩) (by assumption) ?_
      rotate_left 1
      · (intro w hSw; (try dsimp only at hSw); go_simp; try (with_reducible rfl))
      try simp only [List.getElem_toArray, List.getElem_cons_zero, List.getElem_cons_succ, Act.put, List.setIfInBounds_toArray, List.set_cons_zero, List.set_cons_succ]
      refine wpAnyH_take (i := 11) (v := ?_) rfl (by decide +kernel) (by decide +kernel) (by decide +kernel) (fun _ _ _ h => h) (Or.inl ⟨by rfl, ?_⟩) (by assumption) ?_
      rotate_left 1
      · (intro w hSw; (try dsimp only at hSw); go_simp; try (with_reducible rfl))
      try simp only [List.getElem_toArray, List.getElem_cons_zero, List.getElem_cons_succ, Act.put, List.setIfInBounds_toArray, List.set_cons_zero, List.set_cons_succ]
      refine wpAnyH_ready (rs := [12]) (by decide +kernel) (by simp) ?_
      refine AllReadyH.cons rfl (fun K hK => ?_) AllReadyH.nil
      go_simp
      have hbx6 : Blk (w5.setCell ⟨p.d, 4, none⟩ (.slice A5 (D.waits.length + 1) c5)) w.heap.size 128 S := hbx5.far (by show w.heap.size ≠ p.d; omega) _
      refine hK.out _ _ (hbx6.range (n := 128) (by rw [List.drop_zero, List.take_of_length_le (by rw [hlb.out]; omega)])) (fun hHeld => ?_)
      clear hK K
      try simp only [List.getElem_toArray, List.getElem_cons_zero, List.getElem_cons_succ, Act.put, List.setIfInBounds_toArray, List.set_cons_zero, List.set_cons_succ]
      refine wpAnyH_done (by decide +kernel) ?_ _
      have k5 : Keep (fun g => A.map (·.block) = some g) w w5 := (((Keep.refl _ w).alloc _).alloc _).drewD.then_grown hg5 (fun g e => e)
      have h5 := hH.out.turnWaits k5 hown5 ⟨hk, hbl.out⟩ hw
      have H5 := Lib.hid h5
      obtain ⟨e0, e1, e2, e3, e4, e5, e6, e7, e8⟩ := h5.cells
      have hth : (w5.setCell ⟨p.d, 4, none⟩ (.slice A5 (D.waits.length + 1) c5)).there p.gn (k * 128) 128 := h5.bn.there (k * 128) 128 (by rw [List.length_map]; have := h5.ok.now; simp only at this; rw [this]; omega)
      have em := boolCell h5.bm k (by rw [h5.ok.might]; exact hk)
      have fm := h5.bm.frozen k
      generalize hW6 : w5.setCell ⟨p.d, 4, none⟩ (.slice A5 (D.waits.length + 1) c5) = w6 at *
      have HW6 := Lib.hid hW6
      have fmH := Lib.hid fm
      have emH := Lib.hid em
      have hthH := Lib.hid hth
      have hbx : Blk w6 w.heap.size 128 S := hbx6
      clear hW6 h5 d54 f54 fm em hth
      simp only at e1 e3
      go_wp2
      refine wp_region_held_drew (S := fun w' => w'.cell? ⟨p.d, 1, none⟩ = some (.slice (some ⟨p.gn, 0, none⟩) D.many D.many) ∧ w'.cell? ⟨p.d, 3, none⟩ = some (.slice (some ⟨p.gm, 0, none⟩) D.many D.many) ∧ w'.rangeAt w.heap.size 0 S) (by kernel_rfl) ⟨e1, e3, hbx.drew.range (n := 128) (by rw [List.drop_zero, List.take_of_length_le (by rw [hlb.out]; omega)])⟩ (fun hHeld => ?_)
      refine wpAnyH_take (i := 0) (v := ?_) rfl (by decide +kernel) (by decide +kernel) (by decide +kernel) (fun _ _ _ h => h) (Or.inl ⟨by rfl, ?_⟩) (by assumption) ?_
      rotate_left 1
      · (intro w hSw; (try dsimp only at hSw); go_simp; try (with_reducible rfl))
      try simp only [List.getElem_toArray, List.getElem_cons_zero, List.getElem_cons_succ, Act.put, List.setIfInBounds_toArray, List.set_cons_zero, List.set_cons_succ]
      refine wpAnyH_take (i := 1) (v := ?_) rfl (by decide +kernel) (by decide +kernel) (by decide +kernel) (fun _ _ _ h => h) (Or.inl ⟨by rfl, ?_⟩) (by assumption) ?_
      rotate_left 1
      · (intro w hSw; (try dsimp only at hSw); go_simp; try (with_reducible rfl))
      try simp only [List.getElem_toArray, List.getElem_cons_zero, List.getElem_cons_succ, Act.put, List.setIfInBounds_toArray, List.set_cons_zero, List.set_cons_succ]
      refine wpAnyH_take (i := 2) (v := ?_) rfl (by decide +kernel) (by decide +kernel) (by decide +kernel) (fun _ _ _ h => h) (Or.inl ⟨by rfl, ?_⟩) (by assumption) ?_
      rotate_left 1
      · (intro w hSw; (try dsimp only at hSw); go_simp; try (with_reducible rfl))
      try simp only [List.getElem_toArray, List.getElem_cons_zero, List.getElem_cons_succ, Act.put, List.setIfInBounds_toArray, List.set_cons_zero, List.set_cons_succ]
      refine wpAnyH_take (i := 3) (v := ?_) rfl (by decide +kernel) (by decide +kernel) (by decide +kernel) (fun _ _ _ h => h) (Or.inl ⟨by rfl, ?_⟩) (by assumption) ?_
      rotate_left 1
      · (intro w hSw; (try dsimp only at hSw); obtain ⟨s1, s3, s5⟩ := hSw; go_simp; rfl)
      try simp only [List.getElem_toArray, List.getElem_cons_zero, List.getElem_cons_succ, Act.put, List.setIfInBounds_toArray, List.set_cons_zero, List.set_cons_succ]
      refine wpAnyH_take (i := 4) (v := ?_) rfl (by decide +kernel) (by decide +kernel) (by decide +kernel) (fun _ _ _ h => h) (Or.inl ⟨by rfl, ?_⟩) (by assumption) ?_
      rotate_left 1
      · (intro w hSw; (try dsimp only at hSw); go_simp; try (with_reducible rfl))
      try simp only [List.getElem_toArray, List.getElem_cons_zero, List.getElem_cons_succ, Act.put, List.setIfInBounds_toArray, List.set_cons_zero, List.set_cons_succ]
      refine wpAnyH_take (i := 5) (v := ?_) rfl (by decide +kernel) (by decide +kernel) (by decide +kernel) (fun _ _ _ h => h) (Or.inl ⟨by rfl, ?_⟩) (by assumption) ?_
      rotate_left 1
      · (intro w hSw; (try dsimp only at hSw); go_simp; try (with_reducible rfl))
      try simp only [List.getElem_toArray, List.getElem_cons_zero, List.getElem_cons_succ, Act.put, List.setIfInBounds_toArray, List.set_cons_zero, List.set_cons_succ]
      refine wpAnyH_take (i := 6) (v := ?_) rfl (by decide +kernel) (by decide +kernel) (by decide +kernel) (fun _ _ _ h => h) (Or.inl ⟨by rfl, ?_⟩) (by assumption) ?_
      rotate_left 1
      · (intro w hSw; (try dsimp only at hSw); go_simp; try (with_reducible rfl))
      try simp only [List.getElem_toArray, List.getElem_cons_zero, List.getElem_cons_succ, Act.put, List.setIfInBounds_toArray, List.set_cons_zero, List.set_cons_succ]
      refine wpAnyH_take (i := 7) (v := ?_) rfl (by decide +kernel) (by decide +kernel) (by decide +kernel) (fun _ _ _ h => h) (Or.inl ⟨by rfl, ?_⟩) (by assumption) ?_
      rotate_left 1
      · (intro w hSw; (try dsimp only at hSw); go_simp; try (with_reducible rfl))
      try simp only [List.getElem_toArray, List.getElem_cons_zero, List.getElem_cons_succ, Act.put, List.setIfInBounds_toArray, List.set_cons_zero, List.set_cons_succ]
      refine wpAnyH_take (i := 8) (v := ?_) rfl (by decide +kernel) (by decide +kernel) (by decide +kernel) (fun _ _ _ h => h) (Or.inl ⟨by rfl, ?_⟩) (by assumption) ?_
      rotate_left 1
      · (intro w hSw; (try dsimp only at hSw); obtain ⟨s1, s3, s5⟩ := hSw; go_simp; rfl)
      try simp only [List.getElem_toArray, List.getElem_cons_zero, List.getElem_cons_succ, Act.put, List.setIfInBounds_toArray, List.set_cons_zero, List.set_cons_succ]
      refine wpAnyH_take (i := 9) (v := ?_) rfl (by decide +kernel) (by decide +kernel) (by decide +kernel) (fun _ _ _ h => h) (Or.inl ⟨by rfl, ?_⟩) (by assumption) ?_
      rotate_left 1
      · (intro w hSw; (try dsimp only at hSw); go_simp; try (with_reducible rfl))
      try simp only [List.getElem_toArray, List.getElem_cons_zero, List.getElem_cons_succ, Act.put, List.setIfInBounds_toArray, List.set_cons_zero, List.set_cons_succ]
      refine wpAnyH_take (i := 10) (v := _) rfl (by decide +kernel) (by decide +kernel) (by decide +kernel) (fun _ _ _ h => h) (yieldsIf_load_mid (by rfl) _ _ rfl _ _ rfl S _ (fun _ h => h.2.2) Try.underlying128 rfl (by rw [hlb.out]; exact Hi.out)) (by assumption) ?_
      try simp only [List.getElem_toArray, List.getElem_cons_zero, List.getElem_cons_succ, Act.put, List.setIfInBounds_toArray, List.set_cons_zero, List.set_cons_succ]
      refine wpAnyH_take (i := 11) (v := ?_) rfl (by decide +kernel) (by decide +kernel) (by decide +kernel) (fun _ _ _ h => h) (Or.inl ⟨by rfl, ?_⟩) (by assumption) ?_
      rotate_left 1
      · (intro w hSw; (try dsimp only at hSw); go_simp; try (with_reducible rfl))
      try simp only [List.getElem_toArray, List.getElem_cons_zero, List.getElem_cons_succ, Act.put, List.setIfInBounds_toArray, List.set_cons_zero, List.set_cons_succ]
      refine wpAnyH_ready (rs := [12]) (by decide +kernel) (by simp) ?_
      refine AllReadyH.cons rfl (fun K hK => ?_) AllReadyH.nil
      rw [if_pos (by rfl)]
      refine wp_store_mid 128 (.tmp 50) (.tmp 49) rfl p.gn (k * 128) S.toArray rfl rfl (by rw [List.size_toArray, hlb.out]; exact (World.there_drew _ _ _ _).2 hthH.out) (by rw [List.size_toArray, hlb.out]; exact Hi.out) (all_oneCell_toArray hsm.out) ?_
      have hD : DiskAt w6.drew base p A5 c5 { D with waits := D.waits ++ [(k, b)] } := H5.out.drewN 1
      have hbn7 := Blk.setCells S (k * 128) w6.drew _ hD.bn (by rw [List.length_map, hlb.out]; have := H5.out.ok.now; simp only at this; rw [this]; omega)
      have kn7 : Keep (· = p.gn) w6.drew (w6.drew.setCells p.gn (k * 128) S) := Keep.one (grown_setCells _ _ _ _)
      rw [← HB.out, splice_map] at hbn7
      have h7 := DiskAt.turnNow (w' := w6.drew.setCells p.gn (k * 128) S) (l := splice D.now (k * 128) b) hD kn7 (by rw [← HB.out]; exact hbn7) (by rw [splice_len (by rw [H5.out.ok.now, hbl.out]; simp only; omega)]; exact H5.out.ok.now)
      have H7 := Lib.hid h7
      have hbx7 : Blk (w6.drew.setCells p.gn (k * 128) S) w.heap.size 128 S := hbx.drew.setCellsFar (by omega) S (k * 128) _
      have em7 := boolCell h7.bm k (by rw [h7.ok.might]; exact hk)
      have fm7 := h7.bm.frozen k
      have g1 := h7.cells.2.1
      have g3 := h7.cells.2.2.2.1
      simp only at g1 g3
      simp only [List.toList_toArray]
      clear h7
      generalize w6.drew.setCells p.gn (k * 128) S = w7 at *
      refine hK.out _ _ (⟨g1, g3, hbx7.range (n := 128) (by rw [List.drop_zero, List.take_of_length_le (by rw [hlb.out]; omega)])⟩) (fun hHeld => ?_)
      clear hK K
      try simp only [List.getElem_toArray, List.getElem_cons_zero, List.getElem_cons_succ, Act.put, List.setIfInBounds_toArray, List.set_cons_zero, List.set_cons_succ]
      refine wpAnyH_take (i := 13) (v := ?_) rfl (by decide +kernel) (by decide +kernel) (by decide +kernel) (fun _ _ _ h => h) (Or.inl ⟨by rfl, ?_⟩) (by assumption) ?_
      rotate_left 1
      · (intro w hSw; (try dsimp only at hSw); go_simp; try (with_reducible rfl))
      try simp only [List.getElem_toArray, List.getElem_cons_zero, List.getElem_cons_succ, Act.put, List.setIfInBounds_toArray, List.set_cons_zero, List.set_cons_succ]
      refine wpAnyH_ready (rs := [14]) (by decide +kernel) (by simp) ?_
      refine AllReadyH.cons rfl (fun K hK => ?_) AllReadyH.nil
      go_simp
      have h8 := H7.out.setMight k true
      have hbx8 : Blk (w7.setCell ⟨p.gm, k, none⟩ (.bool true)) w.heap.size 128 S := hbx7.far (by show w.heap.size ≠ p.gm; omega) _
      have g18 := h8.cells.2.1
      have g38 := h8.cells.2.2.2.1
      simp only at g18 g38
      have H8 := Lib.hid h8
      clear h8
      refine hK.out _ _ (⟨g18, g38, hbx8.range (n := 128) (by rw [List.drop_zero, List.take_of_length_le (by rw [hlb.out]; omega)])⟩) (fun hHeld => ?_)
      clear hK K
      try simp only [List.getElem_toArray, List.getElem_cons_zero, List.getElem_cons_succ, Act.put, List.setIfInBounds_toArray, List.set_cons_zero, List.set_cons_succ]
      refine wpAnyH_done (by decide +kernel) ?_ _
      have H8' : Hid (DiskAt (w7.setCell ⟨p.gm, k, none⟩ (.bool true)) base p A5 c5 (putD D (k : Int) b)) := H8.out
      have k8 : Keep (foot p A) w (w7.setCell ⟨p.gm, k, none⟩ (.bool true)) := by
        have a5 : Keep (foot p A) w w6 := by rw [← HW6.out]; exact (k5.mono (fun g _ e => .inr (.inr (.inr (.inr (.inr (.inr e))))))).set_ _ (.inl rfl)
        exact ((a5.drewD.trans kn7 (fun g _ e => .inr (.inr (.inl e)))).set_ _ (.inr (.inr (.inr (.inr (.inl rfl))))))
      generalize w7.setCell ⟨p.gm, k, none⟩ (.bool true) = w8 at *
      obtain ⟨bb, hbb⟩ : ∃ bb, (D.cut == 0) = bb := ⟨_, rfl⟩
      have hgo : Calls Try.prog 112 #[.pointer (some ⟨p.d, 0, none⟩), .int .i64 2] w8 fun e w' => e = .returned (.bool bb) ∧ DiskAt w' base p A5 c5 (goesV (putD D (k : Int) b) 2) ∧ Keep (foot p A5) w8 w' := (goes_any H8'.out 2).mono fun e w' ⟨h1, h2, h3, _⟩ => ⟨by rw [h1, ← hbb]; rfl, h2, h3⟩
      have hnew : ∀ g, A5.map (·.block) = some g → A.map (·.block) = some g ∨ w.heap.size ≤ g := fun g e => by
        rcases hat5 with q | q
        · exact .inl (q ▸ e)
        · rw [q] at e
          injection e with e
          exact .inr (by rw [← e]; simp; omega)
      have hG : ∀ g, g < w.heap.size → foot p A5 g → foot p A g := fun g hg e => by
        rcases e with e | e | e | e | e | e | e
        · exact .inl e
        · exact .inr (.inl e)
        · exact .inr (.inr (.inl e))
        · exact .inr (.inr (.inr (.inl e)))
        · exact .inr (.inr (.inr (.inr (.inl e))))
        · exact .inr (.inr (.inr (.inr (.inr (.inl e)))))
        · rcases hnew g e with q | q
          · exact .inr (.inr (.inr (.inr (.inr (.inr q)))))
          · omega
      have hret : Hid (cutE D = if bb = true then 50 else 0) := by
        show _ = _
        unfold cutE
        rw [← hbb]
        by_cases q : D.cut = 0
        · rw [if_pos q, if_pos (by rw [q]; rfl)]
        · rw [if_neg q, if_neg (by rw [beq_iff_eq]; exact q)]
      clear hbb em7 fm7 g1 g3 g18 g38 e0 e1 e2 e3 e4 e5 e6 e7 e8
      cases bb
      all_goals
        go_wp2_with (first
          | ((go_at_call 112; (with_reducible refine (hgo).mono ?_); rintro e w9 ⟨rfl, h9, k9⟩); have H9 := Lib.hid h9; clear h9)
          | fail "no arm")
        go_ret
        exact WrPost.mk (by rw [hret.out]; rfl) H9.out (k8.trans k9 hG) hnew
    · have hl9 := hVl.out
      go_simp
      rw [fold_all V 0 _ (by rw [hl9]; exact Nat.le_of_eq rfl), splice_all _ _ (by rw [hl9]; rfl)]
      refine hK.out _ _ (fun j v hv => World.rangeAt_alloc hHeld _ j v hv) (fun hHeld => ?_)
      clear hK K
      try simp only [List.getElem_toArray, List.getElem_cons_zero, List.getElem_cons_succ, Act.put, List.setIfInBounds_toArray, List.set_cons_zero, List.set_cons_succ]
      refine wpAnyH_ready (rs := [4]) (by decide +kernel) (by simp) ?_
      refine AllReadyH.cons rfl (fun K hK => ?_) AllReadyH.nil
      go_simp
      refine hK.out _ _ (hHeld) (fun hHeld => ?_)
      clear hK K
      try simp only [List.getElem_toArray, List.getElem_cons_zero, List.getElem_cons_succ, Act.put, List.setIfInBounds_toArray, List.set_cons_zero, List.set_cons_succ]
      refine wpAnyH_ready (rs := [9]) (by decide +kernel) (by simp) ?_
      refine AllReadyH.cons rfl (fun K hK => ?_) AllReadyH.nil
      refine step_appS rfl rfl elemPiece pieceV_one (s := .tmp 31) (N := D.waits.length + 1) (L := D.waits ++ [(k, b)]) rfl (hH.out.waS.below (b := w.heap.size) (by (repeat' (first | (with_reducible exact Below.refl _ _) | (with_reducible assumption) | (with_reducible refine Below.drew ?_) | (with_reducible refine below_drewN ?_ _) | (with_reducible refine Below.alloc ?_ ?_ _) | (with_reducible refine Below.setCell ?_ ?_ _) | omega | (simp; done) | (simp; omega)))) (Nat.le_refl _)) rfl (k := [(k, b)]) (RdS.of_cells (g := w.heap.size + 1) (cs := V.toArray) (t := 130) (heap_top _ _ (by simp)) (by simp [pieceV, hbl.out]) (by rw [hVp.out]; simp)) rfl rfl (by unfold maxLen; omega) (by omega) (by simp; omega) ?_
      intro A5 c5 w5 hown5 hg5 hat5 hb5
      have hst5 : Blk w5 p.d 119 (dcells p A c D) := Blk.grown (by (repeat' (first | (with_reducible assumption) | (with_reducible refine Blk.top _ (by first | rfl | omega | (simp; done) | (simp; omega)) rfl) | (with_reducible refine Blk.alloc ?_ _) | (with_reducible refine Blk.drew ?_) | (with_reducible refine Blk.drewN ?_ _) | (with_reducible refine Blk.far ?_ (by first | omega | (simp; done) | (simp; omega)) _)))) hg5 hAd
      have hbx5 : Blk w5 w.heap.size 128 S := Blk.grown (by (repeat' (first | (with_reducible assumption) | (with_reducible refine Blk.top _ (by first | rfl | omega | (simp; done) | (simp; omega)) rfl) | (with_reducible refine Blk.alloc ?_ _) | (with_reducible refine Blk.drew ?_) | (with_reducible refine Blk.drewN ?_ _) | (with_reducible refine Blk.far ?_ (by first | omega | (simp; done) | (simp; omega)) _)))) hg5 (fun e => by have := hH.out.wa.lt _ (show (Value.slice A D.waits.length c).ownBlock = some w.heap.size by cases A with | none => cases e | some a => simpa [Value.ownBlock] using e); omega)
      have d54 : w5.cell? ⟨p.d, 4, none⟩ = some (.slice A D.waits.length c) := hst5.cell 4
      have f54 := hst5.frozen 4
      refine hK.out _ _ (hbx5.range (n := 128) (by rw [List.drop_zero, List.take_of_length_le (by rw [hlb.out]; omega)])) (fun hHeld => ?_)
      clear hK K
      try simp only [List.getElem_toArray, List.getElem_cons_zero, List.getElem_cons_succ, Act.put, List.setIfInBounds_toArray, List.set_cons_zero, List.set_cons_succ]
      refine wpAnyH_take (i := 10) (v := ?_) rfl (by decide +kernel) (by decide +kernel) (by decide +kernel) (fun _ _ _ h => h) (Or.inl ⟨by rfl, ?_⟩) (by assumption) ?_
      rotate_left 1
      · (intro w hSw; (try dsimp only at hSw); go_simp; try (with_reducible rfl))
      try simp only [List.getElem_toArray, List.getElem_cons_zero, List.getElem_cons_succ, Act.put, List.setIfInBounds_toArray, List.set_cons_zero, List.set_cons_succ]
      refine wpAnyH_take (i := 11) (v := ?_) rfl (by decide +kernel) (by decide +kernel) (by decide +kernel) (fun _ _ _ h => h) (Or.inl ⟨by rfl, ?_⟩) (by assumption) ?_
      rotate_left 1
      · (intro w hSw; (try dsimp only at hSw); go_simp; try (with_reducible rfl))
      try simp only [List.getElem_toArray, List.getElem_cons_zero, List.getElem_cons_succ, Act.put, List.setIfInBounds_toArray, List.set_cons_zero, List.set_cons_succ]
      refine wpAnyH_ready (rs := [12]) (by decide +kernel) (by simp) ?_
      refine AllReadyH.cons rfl (fun K hK => ?_) AllReadyH.nil
      go_simp
      have hbx6 : Blk (w5.setCell ⟨p.d, 4, none⟩ (.slice A5 (D.waits.length + 1) c5)) w.heap.size 128 S := hbx5.far (by show w.heap.size ≠ p.d; omega) _
      refine hK.out _ _ (hbx6.range (n := 128) (by rw [List.drop_zero, List.take_of_length_le (by rw [hlb.out]; omega)])) (fun hHeld => ?_)
      clear hK K
      try simp only [List.getElem_toArray, List.getElem_cons_zero, List.getElem_cons_succ, Act.put, List.setIfInBounds_toArray, List.set_cons_zero, List.set_cons_succ]
      refine wpAnyH_done (by decide +kernel) ?_ _
      have k5 : Keep (fun g => A.map (·.block) = some g) w w5 := (((Keep.refl _ w).alloc _).alloc _).drewD.then_grown hg5 (fun g e => e)
      have h5 := hH.out.turnWaits k5 hown5 ⟨hk, hbl.out⟩ hw
      have H5 := Lib.hid h5
      obtain ⟨e0, e1, e2, e3, e4, e5, e6, e7, e8⟩ := h5.cells
      have hth : (w5.setCell ⟨p.d, 4, none⟩ (.slice A5 (D.waits.length + 1) c5)).there p.gn (k * 128) 128 := h5.bn.there (k * 128) 128 (by rw [List.length_map]; have := h5.ok.now; simp only at this; rw [this]; omega)
      have em := boolCell h5.bm k (by rw [h5.ok.might]; exact hk)
      have fm := h5.bm.frozen k
      generalize hW6 : w5.setCell ⟨p.d, 4, none⟩ (.slice A5 (D.waits.length + 1) c5) = w6 at *
      have HW6 := Lib.hid hW6
      have fmH := Lib.hid fm
      have emH := Lib.hid em
      have hthH := Lib.hid hth
      have hbx : Blk w6 w.heap.size 128 S := hbx6
      clear hW6 h5 d54 f54 fm em hth
      simp only at e1 e3
      go_wp2
      refine wp_region_held_drew (S := fun w' => w'.cell? ⟨p.d, 1, none⟩ = some (.slice (some ⟨p.gn, 0, none⟩) D.many D.many) ∧ w'.cell? ⟨p.d, 3, none⟩ = some (.slice (some ⟨p.gm, 0, none⟩) D.many D.many) ∧ w'.rangeAt w.heap.size 0 S) (by kernel_rfl) ⟨e1, e3, hbx.drew.range (n := 128) (by rw [List.drop_zero, List.take_of_length_le (by rw [hlb.out]; omega)])⟩ (fun hHeld => ?_)
      refine wpAnyH_take (i := 0) (v := ?_) rfl (by decide +kernel) (by decide +kernel) (by decide +kernel) (fun _ _ _ h => h) (Or.inl ⟨by rfl, ?_⟩) (by assumption) ?_
      rotate_left 1
      · (intro w hSw; (try dsimp only at hSw); go_simp; try (with_reducible rfl))
      try simp only [List.getElem_toArray, List.getElem_cons_zero, List.getElem_cons_succ, Act.put, List.setIfInBounds_toArray, List.set_cons_zero, List.set_cons_succ]
      refine wpAnyH_take (i := 1) (v := ?_) rfl (by decide +kernel) (by decide +kernel) (by decide +kernel) (fun _ _ _ h => h) (Or.inl ⟨by rfl, ?_⟩) (by assumption) ?_
      rotate_left 1
      · (intro w hSw; (try dsimp only at hSw); go_simp; try (with_reducible rfl))
      try simp only [List.getElem_toArray, List.getElem_cons_zero, List.getElem_cons_succ, Act.put, List.setIfInBounds_toArray, List.set_cons_zero, List.set_cons_succ]
      refine wpAnyH_take (i := 2) (v := ?_) rfl (by decide +kernel) (by decide +kernel) (by decide +kernel) (fun _ _ _ h => h) (Or.inl ⟨by rfl, ?_⟩) (by assumption) ?_
      rotate_left 1
      · (intro w hSw; (try dsimp only at hSw); go_simp; try (with_reducible rfl))
      try simp only [List.getElem_toArray, List.getElem_cons_zero, List.getElem_cons_succ, Act.put, List.setIfInBounds_toArray, List.set_cons_zero, List.set_cons_succ]
      refine wpAnyH_take (i := 3) (v := ?_) rfl (by decide +kernel) (by decide +kernel) (by decide +kernel) (fun _ _ _ h => h) (Or.inl ⟨by rfl, ?_⟩) (by assumption) ?_
      rotate_left 1
      · (intro w hSw; (try dsimp only at hSw); obtain ⟨s1, s3, s5⟩ := hSw; go_simp; rfl)
      try simp only [List.getElem_toArray, List.getElem_cons_zero, List.getElem_cons_succ, Act.put, List.setIfInBounds_toArray, List.set_cons_zero, List.set_cons_succ]
      refine wpAnyH_take (i := 4) (v := ?_) rfl (by decide +kernel) (by decide +kernel) (by decide +kernel) (fun _ _ _ h => h) (Or.inl ⟨by rfl, ?_⟩) (by assumption) ?_
      rotate_left 1
      · (intro w hSw; (try dsimp only at hSw); go_simp; try (with_reducible rfl))
      try simp only [List.getElem_toArray, List.getElem_cons_zero, List.getElem_cons_succ, Act.put, List.setIfInBounds_toArray, List.set_cons_zero, List.set_cons_succ]
      refine wpAnyH_take (i := 5) (v := ?_) rfl (by decide +kernel) (by decide +kernel) (by decide +kernel) (fun _ _ _ h => h) (Or.inl ⟨by rfl, ?_⟩) (by assumption) ?_
      rotate_left 1
      · (intro w hSw; (try dsimp only at hSw); go_simp; try (with_reducible rfl))
      try simp only [List.getElem_toArray, List.getElem_cons_zero, List.getElem_cons_succ, Act.put, List.setIfInBounds_toArray, List.set_cons_zero, List.set_cons_succ]
      refine wpAnyH_take (i := 6) (v := ?_) rfl (by decide +kernel) (by decide +kernel) (by decide +kernel) (fun _ _ _ h => h) (Or.inl ⟨by rfl, ?_⟩) (by assumption) ?_
      rotate_left 1
      · (intro w hSw; (try dsimp only at hSw); go_simp; try (with_reducible rfl))
      try simp only [List.getElem_toArray, List.getElem_cons_zero, List.getElem_cons_succ, Act.put, List.setIfInBounds_toArray, List.set_cons_zero, List.set_cons_succ]
      refine wpAnyH_take (i := 7) (v := ?_) rfl (by decide +kernel) (by decide +kernel) (by decide +kernel) (fun _ _ _ h => h) (Or.inl ⟨by rfl, ?_⟩) (by assumption) ?_
      rotate_left 1
      · (intro w hSw; (try dsimp only at hSw); go_simp; try (with_reducible rfl))
      try simp only [List.getElem_toArray, List.getElem_cons_zero, List.getElem_cons_succ, Act.put, List.setIfInBounds_toArray, List.set_cons_zero, List.set_cons_succ]
      refine wpAnyH_take (i := 8) (v := ?_) rfl (by decide +kernel) (by decide +kernel) (by decide +kernel) (fun _ _ _ h => h) (Or.inl ⟨by rfl, ?_⟩) (by assumption) ?_
      rotate_left 1
      · (intro w hSw; (try dsimp only at hSw); obtain ⟨s1, s3, s5⟩ := hSw; go_simp; rfl)
      try simp only [List.getElem_toArray, List.getElem_cons_zero, List.getElem_cons_succ, Act.put, List.setIfInBounds_toArray, List.set_cons_zero, List.set_cons_succ]
      refine wpAnyH_take (i := 9) (v := ?_) rfl (by decide +kernel) (by decide +kernel) (by decide +kernel) (fun _ _ _ h => h) (Or.inl ⟨by rfl, ?_⟩) (by assumption) ?_
      rotate_left 1
      · (intro w hSw; (try dsimp only at hSw); go_simp; try (with_reducible rfl))
      try simp only [List.getElem_toArray, List.getElem_cons_zero, List.getElem_cons_succ, Act.put, List.setIfInBounds_toArray, List.set_cons_zero, List.set_cons_succ]
      refine wpAnyH_take (i := 10) (v := _) rfl (by decide +kernel) (by decide +kernel) (by decide +kernel) (fun _ _ _ h => h) (yieldsIf_load_mid (by rfl) _ _ rfl _ _ rfl S _ (fun _ h => h.2.2) Try.underlying128 rfl (by rw [hlb.out]; exact Hi.out)) (by assumption) ?_
      try simp only [List.getElem_toArray, List.getElem_cons_zero, List.getElem_cons_succ, Act.put, List.setIfInBounds_toArray, List.set_cons_zero, List.set_cons_succ]
      refine wpAnyH_take (i := 11) (v := ?_) rfl (by decide +kernel) (by decide +kernel) (by decide +kernel) (fun _ _ _ h => h) (Or.inl ⟨by rfl, ?_⟩) (by assumption) ?_
      rotate_left 1
      · (intro w hSw; (try dsimp only at hSw); go_simp; try (with_reducible rfl))
      try simp only [List.getElem_toArray, List.getElem_cons_zero, List.getElem_cons_succ, Act.put, List.setIfInBounds_toArray, List.set_cons_zero, List.set_cons_succ]
      refine wpAnyH_ready (rs := [12]) (by decide +kernel) (by simp) ?_
      refine AllReadyH.cons rfl (fun K hK => ?_) AllReadyH.nil
      rw [if_pos (by rfl)]
      refine wp_store_mid 128 (.tmp 50) (.tmp 49) rfl p.gn (k * 128) S.toArray rfl rfl (by rw [List.size_toArray, hlb.out]; exact (World.there_drew _ _ _ _).2 hthH.out) (by rw [List.size_toArray, hlb.out]; exact Hi.out) (all_oneCell_toArray hsm.out) ?_
      have hD : DiskAt w6.drew base p A5 c5 { D with waits := D.waits ++ [(k, b)] } := H5.out.drewN 1
      have hbn7 := Blk.setCells S (k * 128) w6.drew _ hD.bn (by rw [List.length_map, hlb.out]; have := H5.out.ok.now; simp only at this; rw [this]; omega)
      have kn7 : Keep (· = p.gn) w6.drew (w6.drew.setCells p.gn (k * 128) S) := Keep.one (grown_setCells _ _ _ _)
      rw [← HB.out, splice_map] at hbn7
      have h7 := DiskAt.turnNow (w' := w6.drew.setCells p.gn (k * 128) S) (l := splice D.now (k * 128) b) hD kn7 (by rw [← HB.out]; exact hbn7) (by rw [splice_len (by rw [H5.out.ok.now, hbl.out]; simp only; omega)]; exact H5.out.ok.now)
      have H7 := Lib.hid h7
      have hbx7 : Blk (w6.drew.setCells p.gn (k * 128) S) w.heap.size 128 S := hbx.drew.setCellsFar (by omega) S (k * 128) _
      have em7 := boolCell h7.bm k (by rw [h7.ok.might]; exact hk)
      have fm7 := h7.bm.frozen k
      have g1 := h7.cells.2.1
      have g3 := h7.cells.2.2.2.1
      simp only at g1 g3
      simp only [List.toList_toArray]
      clear h7
      generalize w6.drew.setCells p.gn (k * 128) S = w7 at *
      refine hK.out _ _ (⟨g1, g3, hbx7.range (n := 128) (by rw [List.drop_zero, List.take_of_length_le (by rw [hlb.out]; omega)])⟩) (fun hHeld => ?_)
      clear hK K
      try simp only [List.getElem_toArray, List.getElem_cons_zero, List.getElem_cons_succ, Act.put, List.setIfInBounds_toArray, List.set_cons_zero, List.set_cons_succ]
      refine wpAnyH_take (i := 13) (v := ?_) rfl (by decide +kernel) (by decide +kernel) (by decide +kernel) (fun _ _ _ h => h) (Or.inl ⟨by rfl, ?_⟩) (by assumption) ?_
      rotate_left 1
      · (intro w hSw; (try dsimp only at hSw); go_simp; try (with_reducible rfl))
      try simp only [List.getElem_toArray, List.getElem_cons_zero, List.getElem_cons_succ, Act.put, List.setIfInBounds_toArray, List.set_cons_zero, List.set_cons_succ]
      refine wpAnyH_ready (rs := [14]) (by decide +kernel) (by simp) ?_
      refine AllReadyH.cons rfl (fun K hK => ?_) AllReadyH.nil
      go_simp
      have h8 := H7.out.setMight k true
      have hbx8 : Blk (w7.setCell ⟨p.gm, k, none⟩ (.bool true)) w.heap.size 128 S := hbx7.far (by show w.heap.size ≠ p.gm; omega) _
      have g18 := h8.cells.2.1
      have g38 := h8.cells.2.2.2.1
      simp only at g18 g38
      have H8 := Lib.hid h8
      clear h8
      refine hK.out _ _ (⟨g18, g38, hbx8.range (n := 128) (by rw [List.drop_zero, List.take_of_length_le (by rw [hlb.out]; omega)])⟩) (fun hHeld => ?_)
      clear hK K
      try simp only [List.getElem_toArray, List.getElem_cons_zero, List.getElem_cons_succ, Act.put, List.setIfInBounds_toArray, List.set_cons_zero, List.set_cons_succ]
      refine wpAnyH_done (by decide +kernel) ?_ _
      have H8' : Hid (DiskAt (w7.setCell ⟨p.gm, k, none⟩ (.bool true)) base p A5 c5 (putD D (k : Int) b)) := H8.out
      have k8 : Keep (foot p A) w (w7.setCell ⟨p.gm, k, none⟩ (.bool true)) := by
        have a5 : Keep (foot p A) w w6 := by rw [← HW6.out]; exact (k5.mono (fun g _ e => .inr (.inr (.inr (.inr (.inr (.inr e))))))).set_ _ (.inl rfl)
        exact ((a5.drewD.trans kn7 (fun g _ e => .inr (.inr (.inl e)))).set_ _ (.inr (.inr (.inr (.inr (.inl rfl))))))
      generalize w7.setCell ⟨p.gm, k, none⟩ (.bool true) = w8 at *
      obtain ⟨bb, hbb⟩ : ∃ bb, (D.cut == 0) = bb := ⟨_, rfl⟩
      have hgo : Calls Try.prog 112 #[.pointer (some ⟨p.d, 0, none⟩), .int .i64 2] w8 fun e w' => e = .returned (.bool bb) ∧ DiskAt w' base p A5 c5 (goesV (putD D (k : Int) b) 2) ∧ Keep (foot p A5) w8 w' := (goes_any H8'.out 2).mono fun e w' ⟨h1, h2, h3, _⟩ => ⟨by rw [h1, ← hbb]; rfl, h2, h3⟩
      have hnew : ∀ g, A5.map (·.block) = some g → A.map (·.block) = some g ∨ w.heap.size ≤ g := fun g e => by
        rcases hat5 with q | q
        · exact .inl (q ▸ e)
        · rw [q] at e
          injection e with e
          exact .inr (by rw [← e]; simp; omega)
      have hG : ∀ g, g < w.heap.size → foot p A5 g → foot p A g := fun g hg e => by
        rcases e with e | e | e | e | e | e | e
        · exact .inl e
        · exact .inr (.inl e)
        · exact .inr (.inr (.inl e))
        · exact .inr (.inr (.inr (.inl e)))
        · exact .inr (.inr (.inr (.inr (.inl e))))
        · exact .inr (.inr (.inr (.inr (.inr (.inl e)))))
        · rcases hnew g e with q | q
          · exact .inr (.inr (.inr (.inr (.inr (.inr q)))))
          · omega
      have hret : Hid (cutE D = if bb = true then 50 else 0) := by
        show _ = _
        unfold cutE
        rw [← hbb]
        by_cases q : D.cut = 0
        · rw [if_pos q, if_pos (by rw [q]; rfl)]
        · rw [if_neg q, if_neg (by rw [beq_iff_eq]; exact q)]
      clear hbb em7 fm7 g1 g3 g18 g38 e0 e1 e2 e3 e4 e5 e6 e7 e8
      cases bb
      all_goals
        go_wp2_with (first
          | ((go_at_call 112; (with_reducible refine (hgo).mono ?_); rintro e w9 ⟨rfl, h9, k9⟩); have H9 := Lib.hid h9; clear h9)
          | fail "no arm")
        go_ret
        exact WrPost.mk (by rw [hret.out]; rfl) H9.out (k8.trans k9 hG) hnew
  | false =>
    have hf' : (D.room - ((trues D.might : Nat) : Int) == 0) = false := hf
    generalize D.room - ((trues D.might : Nat) : Int) = left at *
    clear hf
    go_enter Try.func110, Try.ntmps110
    go_wp2_with (first
      | (go_at_call 111; (with_reducible refine (hmay _).mono ?_); rintro e w1 ⟨rfl, rfl⟩)
      | (go_at_call 134; (with_reducible refine (hleft _).mono ?_); rintro e w1 ⟨rfl, rfl⟩)
      | fail "no arm")
    refine wp_region_held_drew (S := fun w' => w'.rangeAt w.heap.size 0 S) (by kernel_rfl) (hbk.out.drew.range (n := 128) (by rw [List.drop_zero, List.take_of_length_le (by rw [hlb.out]; omega)])) (fun hHeld => ?_)
    refine wpAnyH_take (i := 0) (v := ?_) rfl (by decide +kernel) (by decide +kernel) (by decide +kernel) (fun _ _ _ h => h) (Or.inl ⟨by rfl, ?_⟩) (by assumption) ?_
    rotate_left 1
    · (intro w hSw; (try dsimp only at hSw); go_simp; try (with_reducible rfl))
    try simp only [List.getElem_toArray, List.getElem_cons_zero, List.getElem_cons_succ, Act.put, List.setIfInBounds_toArray, List.set_cons_zero, List.set_cons_succ]
    refine wpAnyH_take (i := 1) (v := ?_) rfl (by decide +kernel) (by decide +kernel) (by decide +kernel) (fun _ _ _ h => h) (Or.inl ⟨by rfl, ?_⟩) (by assumption) ?_
    rotate_left 1
    · (intro w hSw; (try dsimp only at hSw); go_simp; try (with_reducible rfl))
    try simp only [List.getElem_toArray, List.getElem_cons_zero, List.getElem_cons_succ, Act.put, List.setIfInBounds_toArray, List.set_cons_zero, List.set_cons_succ]
    refine wpAnyH_take (i := 2) (v := ?_) rfl (by decide +kernel) (by decide +kernel) (by decide +kernel) (fun _ _ _ h => h) (Or.inl ⟨by rfl, ?_⟩) (by assumption) ?_
    rotate_left 1
    · (intro w hSw; (try dsimp only at hSw); go_simp; try (with_reducible rfl))
    try simp only [List.getElem_toArray, List.getElem_cons_zero, List.getElem_cons_succ, Act.put, List.setIfInBounds_toArray, List.set_cons_zero, List.set_cons_succ]
    refine wpAnyH_take (i := 3) (v := ?_) rfl (by decide +kernel) (by decide +kernel) (by decide +kernel) (fun _ _ _ h => h) (Or.inl ⟨by rfl, ?_⟩) (by assumption) ?_
    rotate_left 1
    · (intro w hSw; (try dsimp only at hSw); go_simp; try (with_reducible rfl))
    try simp only [List.getElem_toArray, List.getElem_cons_zero, List.getElem_cons_succ, Act.put, List.setIfInBounds_toArray, List.set_cons_zero, List.set_cons_succ]
    refine wpAnyH_take (i := 5) (v := ?_) rfl (by decide +kernel) (by decide +kernel) (by decide +kernel) (fun _ _ _ h => h) (Or.inl ⟨by rfl, ?_⟩) (by assumption) ?_
    rotate_left 1
    · (intro w hSw; (try dsimp only at hSw); go_simp; try (with_reducible rfl))
    try simp only [List.getElem_toArray, List.getElem_cons_zero, List.getElem_cons_succ, Act.put, List.setIfInBounds_toArray, List.set_cons_zero, List.set_cons_succ]
    refine wpAnyH_take (i := 6) (v := _) rfl (by decide +kernel) (by decide +kernel) (by decide +kernel) (fun _ _ _ h => h) (yieldsIf_load_mid (by rfl) _ _ rfl _ _ rfl S _ (fun _ h => h) Try.underlying128 rfl (by rw [hlb.out]; exact Hi.out)) (by assumption) ?_
    try simp only [List.getElem_toArray, List.getElem_cons_zero, List.getElem_cons_succ, Act.put, List.setIfInBounds_toArray, List.set_cons_zero, List.set_cons_succ]
    refine wpAnyH_take (i := 7) (v := ?_) rfl (by decide +kernel) (by decide +kernel) (by decide +kernel) (fun _ _ _ h => h) (Or.inl ⟨by rfl, ?_⟩) (by assumption) ?_
    rotate_left 1
    · (intro w hSw; (try dsimp only at hSw); have hl9 := hlb.out; go_simp; rw [build_piece _ _ hl9, HV.out])
    try simp only [List.getElem_toArray, List.getElem_cons_zero, List.getElem_cons_succ, Act.put, List.setIfInBounds_toArray, List.set_cons_zero, List.set_cons_succ]
    refine wpAnyH_ready (rs := [4, 8]) (by decide +kernel) (by simp) ?_
    refine AllReadyH.cons rfl (fun K hK => ?_) (AllReadyH.cons rfl (fun K hK => ?_) AllReadyH.nil)
    · go_simp
      refine hK.out _ _ (hHeld) (fun hHeld => ?_)
      clear hK K
      try simp only [List.getElem_toArray, List.getElem_cons_zero, List.getElem_cons_succ, Act.put, List.setIfInBounds_toArray, List.set_cons_zero, List.set_cons_succ]
      refine wpAnyH_ready (rs := [8]) (by decide +kernel) (by simp) ?_
      refine AllReadyH.cons rfl (fun K hK => ?_) AllReadyH.nil
      have hl9 := hVl.out
      go_simp
      rw [fold_all V 0 _ (by rw [hl9]; exact Nat.le_of_eq rfl), splice_all _ _ (by rw [hl9]; rfl)]
      refine hK.out _ _ (fun j v hv => World.rangeAt_alloc hHeld _ j v hv) (fun hHeld => ?_)
      clear hK K
      try simp only [List.getElem_toArray, List.getElem_cons_zero, List.getElem_cons_succ, Act.put, List.setIfInBounds_toArray, List.set_cons_zero, List.set_cons_succ]
      refine wpAnyH_ready (rs := [9]) (by decide +kernel) (by simp) ?_
      refine AllReadyH.cons rfl (fun K hK => ?_) AllReadyH.nil
      refine step_appS rfl rfl elemPiece pieceV_one (s := .tmp 31) (N := D.waits.length + 1) (L := D.waits ++ [(k, b)]) rfl (hH.out.waS.below (b := w.heap.size) (by (repeat' (first | (with_reducible exact Below.refl _ _) | (with_reducible assumption) | (with_reducible refine Below.drew ?_) | (with_reducible refine below_drewN ?_ _) | (with_reducible refine Below.alloc ?_ ?_ _) | (with_reducible refine Below.setCell ?_ ?_ _) | omega | (simp; done) | (simp; omega)))) (Nat.le_refl _)) rfl (k := [(k, b)]) (RdS.of_cells (g := w.heap.size + 1) (cs := V.toArray) (t := 130) (heap_top _ _ (by simp)) (by simp [pieceV, hbl.out]) (by rw [hVp.out]; simp)) rfl rfl (by unfold maxLen; omega) (by omega) (by simp; omega) ?_
      intro A5 c5 w5 hown5 hg5 hat5 hb5
      have hst5 : Blk w5 p.d 119 (dcells p A c D) := Blk.grown (by (repeat' (first | (with_reducible assumption) | (with_reducible refine Blk.top _ (by first | rfl | omega | (simp; done) | (simp; omega)) rfl) | (with_reducible refine Blk.alloc ?_ _) | (with_reducible refine Blk.drew ?_) | (with_reducible refine Blk.drewN ?_ _) | (with_reducible refine Blk.far ?_ (by first | omega | (simp; done) | (simp; omega)) _)))) hg5 hAd
      have hbx5 : Blk w5 w.heap.size 128 S := Blk.grown (by (repeat' (first | (with_reducible assumption) | (with_reducible refine Blk.top _ (by first | rfl | omega | (simp; done) | (simp; omega)) rfl) | (with_reducible refine Blk.alloc ?_ _) | (with_reducible refine Blk.drew ?_) | (with_reducible refine Blk.drewN ?_ _) | (with_reducible refine Blk.far ?_ (by first | omega | (simp; done) | (simp; omega)) _)))) hg5 (fun e => by have := hH.out.wa.lt _ (show (Value.slice A D.waits.length c).ownBlock = some w.heap.size by cases A with | none => cases e | some a => simpa [Value.ownBlock] using e); omega)
      have d54 : w5.cell? ⟨p.d, 4, none⟩ = some (.slice A D.waits.length c) := hst5.cell 4
      have f54 := hst5.frozen 4
      refine hK.out _ _ (hbx5.range (n := 128) (by rw [List.drop_zero, List.take_of_length_le (by rw [hlb.out]; omega)])) (fun hHeld => ?_)
      clear hK K
      try simp only [List.getElem_toArray, List.getElem_cons_zero, List.getElem_cons_succ, Act.put, List.setIfInBounds_toArray, List.set_cons_zero, List.set_cons_succ]
      refine wpAnyH_take (i := 10) (v := ?_) rfl (by decide +kernel) (by decide +kernel) (by decide +kernel) (fun _ _ _ h => h) (Or.inl ⟨by rfl, ?_⟩) (by assumption) ?_
      rotate_left 1
      · (intro w hSw; (try dsimp only at hSw); go_simp; try (with_reducible rfl))
      try simp only [List.getElem_toArray, List.getElem_cons_zero, List.getElem_cons_succ, Act.put, List.setIfInBounds_toArray, List.set_cons_zero, List.set_cons_succ]
      refine wpAnyH_take (i := 11) (v := ?_) rfl (by decide +kernel) (by decide +kernel) (by decide +kernel) (fun _ _ _ h => h) (Or.inl ⟨by rfl, ?_⟩) (by assumption) ?_
      rotate_left 1
      · (intro w hSw; (try dsimp only at hSw); go_simp; try (with_reducible rfl))
      try simp only [List.getElem_toArray, List.getElem_cons_zero, List.getElem_cons_succ, Act.put, List.setIfInBounds_toArray, List.set_cons_zero, List.set_cons_succ]
      refine wpAnyH_ready (rs := [12]) (by decide +kernel) (by simp) ?_
      refine AllReadyH.cons rfl (fun K hK => ?_) AllReadyH.nil
      go_simp
      have hbx6 : Blk (w5.setCell ⟨p.d, 4, none⟩ (.slice A5 (D.waits.length + 1) c5)) w.heap.size 128 S := hbx5.far (by show w.heap.size ≠ p.d; omega) _
      refine hK.out _ _ (hbx6.range (n := 128) (by rw [List.drop_zero, List.take_of_length_le (by rw [hlb.out]; omega)])) (fun hHeld => ?_)
      clear hK K
      try simp only [List.getElem_toArray, List.getElem_cons_zero, List.getElem_cons_succ, Act.put, List.setIfInBounds_toArray, List.set_cons_zero, List.set_cons_succ]
      refine wpAnyH_done (by decide +kernel) ?_ _
      have k5 : Keep (fun g => A.map (·.block) = some g) w w5 := (((Keep.refl _ w).alloc _).alloc _).drewD.then_grown hg5 (fun g e => e)
      have h5 := hH.out.turnWaits k5 hown5 ⟨hk, hbl.out⟩ hw
      have H5 := Lib.hid h5
      obtain ⟨e0, e1, e2, e3, e4, e5, e6, e7, e8⟩ := h5.cells
      have hth : (w5.setCell ⟨p.d, 4, none⟩ (.slice A5 (D.waits.length + 1) c5)).there p.gn (k * 128) 128 := h5.bn.there (k * 128) 128 (by rw [List.length_map]; have := h5.ok.now; simp only at this; rw [this]; omega)
      have em := boolCell h5.bm k (by rw [h5.ok.might]; exact hk)
      have fm := h5.bm.frozen k
      generalize hW6 : w5.setCell ⟨p.d, 4, none⟩ (.slice A5 (D.waits.length + 1) c5) = w6 at *
      have HW6 := Lib.hid hW6
      have fmH := Lib.hid fm
      have emH := Lib.hid em
      have hthH := Lib.hid hth
      have hbx : Blk w6 w.heap.size 128 S := hbx6
      clear hW6 h5 d54 f54 fm em hth
      simp only at e1 e3
      go_wp2
      refine wp_region_held_drew (S := fun w' => w'.cell? ⟨p.d, 1, none⟩ = some (.slice (some ⟨p.gn, 0, none⟩) D.many D.many) ∧ w'.cell? ⟨p.d, 3, none⟩ = some (.slice (some ⟨p.gm, 0, none⟩) D.many D.many) ∧ w'.rangeAt w.heap.size 0 S) (by kernel_rfl) ⟨e1, e3, hbx.drew.range (n := 128) (by rw [List.drop_zero, List.take_of_length_le (by rw [hlb.out]; omega)])⟩ (fun hHeld => ?_)
      refine wpAnyH_take (i := 0) (v := ?_) rfl (by decide +kernel) (by decide +kernel) (by decide +kernel) (fun _ _ _ h => h) (Or.inl ⟨by rfl, ?_⟩) (by assumption) ?_
      rotate_left 1
      · (intro w hSw; (try dsimp only at hSw); go_simp; try (with_reducible rfl))
      try simp only [List.getElem_toArray, List.getElem_cons_zero, List.getElem_cons_succ, Act.put, List.setIfInBounds_toArray, List.set_cons_zero, List.set_cons_succ]
      refine wpAnyH_take (i := 1) (v := ?_) rfl (by decide +kernel) (by decide +kernel) (by decide +kernel) (fun _ _ _ h => h) (Or.inl ⟨by rfl, ?_⟩) (by assumption) ?_
      rotate_left 1
      · (intro w hSw; (try dsimp only at hSw); go_simp; try (with_reducible rfl))
      try simp only [List.getElem_toArray, List.getElem_cons_zero, List.getElem_cons_succ, Act.put, List.setIfInBounds_toArray, List.set_cons_zero, List.set_cons_succ]
      refine wpAnyH_take (i := 2) (v := ?_) rfl (by decide +kernel) (by decide +kernel) (by decide +kernel) (fun _ _ _ h => h) (Or.inl ⟨by rfl, ?_⟩) (by assumption) ?_
      rotate_left 1
      · (intro w hSw; (try dsimp only at hSw); go_simp; try (with_reducible rfl))
      try simp only [List.getElem_toArray, List.getElem_cons_zero, List.getElem_cons_succ, Act.put, List.setIfInBounds_toArray, List.set_cons_zero, List.set_cons_succ]
      refine wpAnyH_take (i := 3) (v := ?_) rfl (by decide +kernel) (by decide +kernel) (by decide +kernel) (fun _ _ _ h => h) (Or.inl ⟨by rfl, ?_⟩) (by assumption) ?_
      rotate_left 1
      · (intro w hSw; (try dsimp only at hSw); obtain ⟨s1, s3, s5⟩ := hSw; go_simp; rfl)
      try simp only [List.getElem_toArray, List.getElem_cons_zero, List.getElem_cons_succ, Act.put, List.setIfInBounds_toArray, List.set_cons_zero, List.set_cons_succ]
      refine wpAnyH_take (i := 4) (v := ?_) rfl (by decide +kernel) (by decide +kernel) (by decide +kernel) (fun _ _ _ h => h) (Or.inl ⟨by rfl, ?_⟩) (by assumption) ?_
      rotate_left 1
      · (intro w hSw; (try dsimp only at hSw); go_simp; try (with_reducible rfl))
      try simp only [List.getElem_toArray, List.getElem_cons_zero, List.getElem_cons_succ, Act.put, List.setIfInBounds_toArray, List.set_cons_zero, List.set_cons_succ]
      refine wpAnyH_take (i := 5) (v := ?_) rfl (by decide +kernel) (by decide +kernel) (by decide +kernel) (fun _ _ _ h => h) (Or.inl ⟨by rfl, ?_⟩) (by assumption) ?_
      rotate_left 1
      · (intro w hSw; (try dsimp only at hSw); go_simp; try (with_reducible rfl))
      try simp only [List.getElem_toArray, List.getElem_cons_zero, List.getElem_cons_succ, Act.put, List.setIfInBounds_toArray, List.set_cons_zero, List.set_cons_succ]
      refine wpAnyH_take (i := 6) (v := ?_) rfl (by decide +kernel) (by decide +kernel) (by decide +kernel) (fun _ _ _ h => h) (Or.inl ⟨by rfl, ?_⟩) (by assumption) ?_
      rotate_left 1
      · (intro w hSw; (try dsimp only at hSw); go_simp; try (with_reducible rfl))
      try simp only [List.getElem_toArray, List.getElem_cons_zero, List.getElem_cons_succ, Act.put, List.setIfInBounds_toArray, List.set_cons_zero, List.set_cons_succ]
      refine wpAnyH_take (i := 7) (v := ?_) rfl (by decide +kernel) (by decide +kernel) (by decide +kernel) (fun _ _ _ h => h) (Or.inl ⟨by rfl, ?_⟩) (by assumption) ?_
      rotate_left 1
      · (intro w hSw; (try dsimp only at hSw); go_simp; try (with_reducible rfl))
      try simp only [List.getElem_toArray, List.getElem_cons_zero, List.getElem_cons_succ, Act.put, List.setIfInBounds_toArray, List.set_cons_zero, List.set_cons_succ]
      refine wpAnyH_take (i := 8) (v := ?_) rfl (by decide +kernel) (by decide +kernel) (by decide +kernel) (fun _ _ _ h => h) (Or.inl ⟨by rfl, ?_⟩) (by assumption) ?_
      rotate_left 1
      · (intro w hSw; (try dsimp only at hSw); obtain ⟨s1, s3, s5⟩ := hSw; go_simp; rfl)
      try simp only [List.getElem_toArray, List.getElem_cons_zero, List.getElem_cons_succ, Act.put, List.setIfInBounds_toArray, List.set_cons_zero, List.set_cons_succ]
      refine wpAnyH_take (i := 9) (v := ?_) rfl (by decide +kernel) (by decide +kernel) (by decide +kernel) (fun _ _ _ h => h) (Or.inl ⟨by rfl, ?_⟩) (by assumption) ?_
      rotate_left 1
      · (intro w hSw; (try dsimp only at hSw); go_simp; try (with_reducible rfl))
      try simp only [List.getElem_toArray, List.getElem_cons_zero, List.getElem_cons_succ, Act.put, List.setIfInBounds_toArray, List.set_cons_zero, List.set_cons_succ]
      refine wpAnyH_take (i := 10) (v := _) rfl (by decide +kernel) (by decide +kernel) (by decide +kernel) (fun _ _ _ h => h) (yieldsIf_load_mid (by rfl) _ _ rfl _ _ rfl S _ (fun _ h => h.2.2) Try.underlying128 rfl (by rw [hlb.out]; exact Hi.out)) (by assumption) ?_
      try simp only [List.getElem_toArray, List.getElem_cons_zero, List.getElem_cons_succ, Act.put, List.setIfInBounds_toArray, List.set_cons_zero, List.set_cons_succ]
      refine wpAnyH_take (i := 11) (v := ?_) rfl (by decide +kernel) (by decide +kernel) (by decide +kernel) (fun _ _ _ h => h) (Or.inl ⟨by rfl, ?_⟩) (by assumption) ?_
      rotate_left 1
      · (intro w hSw; (try dsimp only at hSw); go_simp; try (with_reducible rfl))
      try simp only [List.getElem_toArray, List.getElem_cons_zero, List.getElem_cons_succ, Act.put, List.setIfInBounds_toArray, List.set_cons_zero, List.set_cons_succ]
      refine wpAnyH_ready (rs := [12]) (by decide +kernel) (by simp) ?_
      refine AllReadyH.cons rfl (fun K hK => ?_) AllReadyH.nil
      rw [if_pos (by rfl)]
      refine wp_store_mid 128 (.tmp 50) (.tmp 49) rfl p.gn (k * 128) S.toArray rfl rfl (by rw [List.size_toArray, hlb.out]; exact (World.there_drew _ _ _ _).2 hthH.out) (by rw [List.size_toArray, hlb.out]; exact Hi.out) (all_oneCell_toArray hsm.out) ?_
      have hD : DiskAt w6.drew base p A5 c5 { D with waits := D.waits ++ [(k, b)] } := H5.out.drewN 1
      have hbn7 := Blk.setCells S (k * 128) w6.drew _ hD.bn (by rw [List.length_map, hlb.out]; have := H5.out.ok.now; simp only at this; rw [this]; omega)
      have kn7 : Keep (· = p.gn) w6.drew (w6.drew.setCells p.gn (k * 128) S) := Keep.one (grown_setCells _ _ _ _)
      rw [← HB.out, splice_map] at hbn7
      have h7 := DiskAt.turnNow (w' := w6.drew.setCells p.gn (k * 128) S) (l := splice D.now (k * 128) b) hD kn7 (by rw [← HB.out]; exact hbn7) (by rw [splice_len (by rw [H5.out.ok.now, hbl.out]; simp only; omega)]; exact H5.out.ok.now)
      have H7 := Lib.hid h7
      have hbx7 : Blk (w6.drew.setCells p.gn (k * 128) S) w.heap.size 128 S := hbx.drew.setCellsFar (by omega) S (k * 128) _
      have em7 := boolCell h7.bm k (by rw [h7.ok.might]; exact hk)
      have fm7 := h7.bm.frozen k
      have g1 := h7.cells.2.1
      have g3 := h7.cells.2.2.2.1
      simp only at g1 g3
      simp only [List.toList_toArray]
      clear h7
      generalize w6.drew.setCells p.gn (k * 128) S = w7 at *
      refine hK.out _ _ (⟨g1, g3, hbx7.range (n := 128) (by rw [List.drop_zero, List.take_of_length_le (by rw [hlb.out]; omega)])⟩) (fun hHeld => ?_)
      clear hK K
      try simp only [List.getElem_toArray, List.getElem_cons_zero, List.getElem_cons_succ, Act.put, List.setIfInBounds_toArray, List.set_cons_zero, List.set_cons_succ]
      refine wpAnyH_take (i := 13) (v := ?_) rfl (by decide +kernel) (by decide +kernel) (by decide +kernel) (fun _ _ _ h => h) (Or.inl ⟨by rfl, ?_⟩) (by assumption) ?_
      rotate_left 1
      · (intro w hSw; (try dsimp only at hSw); go_simp; try (with_reducible rfl))
      try simp only [List.getElem_toArray, List.getElem_cons_zero, List.getElem_cons_succ, Act.put, List.setIfInBounds_toArray, List.set_cons_zero, List.set_cons_succ]
      refine wpAnyH_ready (rs := [14]) (by decide +kernel) (by simp) ?_
      refine AllReadyH.cons rfl (fun K hK => ?_) AllReadyH.nil
      go_simp
      have h8 := H7.out.setMight k true
      have hbx8 : Blk (w7.setCell ⟨p.gm, k, none⟩ (.bool true)) w.heap.size 128 S := hbx7.far (by show w.heap.size ≠ p.gm; omega) _
      have g18 := h8.cells.2.1
      have g38 := h8.cells.2.2.2.1
      simp only at g18 g38
      have H8 := Lib.hid h8
      clear h8
      refine hK.out _ _ (⟨g18, g38, hbx8.range (n := 128) (by rw [List.drop_zero, List.take_of_length_le (by rw [hlb.out]; omega)])⟩) (fun hHeld => ?_)
      clear hK K
      try simp only [List.getElem_toArray, List.getElem_cons_zero, List.getElem_cons_succ, Act.put, List.setIfInBounds_toArray, List.set_cons_zero, List.set_cons_succ]
      refine wpAnyH_done (by decide +kernel) ?_ _
      have H8' : Hid (DiskAt (w7.setCell ⟨p.gm, k, none⟩ (.bool true)) base p A5 c5 (putD D (k : Int) b)) := H8.out
      have k8 : Keep (foot p A) w (w7.setCell ⟨p.gm, k, none⟩ (.bool true)) := by
        have a5 : Keep (foot p A) w w6 := by rw [← HW6.out]; exact (k5.mono (fun g _ e => .inr (.inr (.inr (.inr (.inr (.inr e))))))).set_ _ (.inl rfl)
        exact ((a5.drewD.trans kn7 (fun g _ e => .inr (.inr (.inl e)))).set_ _ (.inr (.inr (.inr (.inr (.inl rfl))))))
      generalize w7.setCell ⟨p.gm, k, none⟩ (.bool true) = w8 at *
      obtain ⟨bb, hbb⟩ : ∃ bb, (D.cut == 0) = bb := ⟨_, rfl⟩
      have hgo : Calls Try.prog 112 #[.pointer (some ⟨p.d, 0, none⟩), .int .i64 2] w8 fun e w' => e = .returned (.bool bb) ∧ DiskAt w' base p A5 c5 (goesV (putD D (k : Int) b) 2) ∧ Keep (foot p A5) w8 w' := (goes_any H8'.out 2).mono fun e w' ⟨h1, h2, h3, _⟩ => ⟨by rw [h1, ← hbb]; rfl, h2, h3⟩
      have hnew : ∀ g, A5.map (·.block) = some g → A.map (·.block) = some g ∨ w.heap.size ≤ g := fun g e => by
        rcases hat5 with q | q
        · exact .inl (q ▸ e)
        · rw [q] at e
          injection e with e
          exact .inr (by rw [← e]; simp; omega)
      have hG : ∀ g, g < w.heap.size → foot p A5 g → foot p A g := fun g hg e => by
        rcases e with e | e | e | e | e | e | e
        · exact .inl e
        · exact .inr (.inl e)
        · exact .inr (.inr (.inl e))
        · exact .inr (.inr (.inr (.inl e)))
        · exact .inr (.inr (.inr (.inr (.inl e))))
        · exact .inr (.inr (.inr (.inr (.inr (.inl e)))))
        · rcases hnew g e with q | q
          · exact .inr (.inr (.inr (.inr (.inr (.inr q)))))
          · omega
      have hret : Hid (cutE D = if bb = true then 50 else 0) := by
        show _ = _
        unfold cutE
        rw [← hbb]
        by_cases q : D.cut = 0
        · rw [if_pos q, if_pos (by rw [q]; rfl)]
        · rw [if_neg q, if_neg (by rw [beq_iff_eq]; exact q)]
      clear hbb em7 fm7 g1 g3 g18 g38 e0 e1 e2 e3 e4 e5 e6 e7 e8
      cases bb
      all_goals
        go_wp2_with (first
          | ((go_at_call 112; (with_reducible refine (hgo).mono ?_); rintro e w9 ⟨rfl, h9, k9⟩); have H9 := Lib.hid h9; clear h9)
          | fail "no arm")
        go_ret
        exact WrPost.mk (by rw [hret.out]; rfl) H9.out (k8.trans k9 hG) hnew
    · have hl9 := hVl.out
      go_simp
      rw [fold_all V 0 _ (by rw [hl9]; exact Nat.le_of_eq rfl), splice_all _ _ (by rw [hl9]; rfl)]
      refine hK.out _ _ (fun j v hv => World.rangeAt_alloc hHeld _ j v hv) (fun hHeld => ?_)
      clear hK K
      try simp only [List.getElem_toArray, List.getElem_cons_zero, List.getElem_cons_succ, Act.put, List.setIfInBounds_toArray, List.set_cons_zero, List.set_cons_succ]
      refine wpAnyH_ready (rs := [4]) (by decide +kernel) (by simp) ?_
      refine AllReadyH.cons rfl (fun K hK => ?_) AllReadyH.nil
      go_simp
      refine hK.out _ _ (hHeld) (fun hHeld => ?_)
      clear hK K
      try simp only [List.getElem_toArray, List.getElem_cons_zero, List.getElem_cons_succ, Act.put, List.setIfInBounds_toArray, List.set_cons_zero, List.set_cons_succ]
      refine wpAnyH_ready (rs := [9]) (by decide +kernel) (by simp) ?_
      refine AllReadyH.cons rfl (fun K hK => ?_) AllReadyH.nil
      refine step_appS rfl rfl elemPiece pieceV_one (s := .tmp 31) (N := D.waits.length + 1) (L := D.waits ++ [(k, b)]) rfl (hH.out.waS.below (b := w.heap.size) (by (repeat' (first | (with_reducible exact Below.refl _ _) | (with_reducible assumption) | (with_reducible refine Below.drew ?_) | (with_reducible refine below_drewN ?_ _) | (with_reducible refine Below.alloc ?_ ?_ _) | (with_reducible refine Below.setCell ?_ ?_ _) | omega | (simp; done) | (simp; omega)))) (Nat.le_refl _)) rfl (k := [(k, b)]) (RdS.of_cells (g := w.heap.size + 1) (cs := V.toArray) (t := 130) (heap_top _ _ (by simp)) (by simp [pieceV, hbl.out]) (by rw [hVp.out]; simp)) rfl rfl (by unfold maxLen; omega) (by omega) (by simp; omega) ?_
      intro A5 c5 w5 hown5 hg5 hat5 hb5
      have hst5 : Blk w5 p.d 119 (dcells p A c D) := Blk.grown (by (repeat' (first | (with_reducible assumption) | (with_reducible refine Blk.top _ (by first | rfl | omega | (simp; done) | (simp; omega)) rfl) | (with_reducible refine Blk.alloc ?_ _) | (with_reducible refine Blk.drew ?_) | (with_reducible refine Blk.drewN ?_ _) | (with_reducible refine Blk.far ?_ (by first | omega | (simp; done) | (simp; omega)) _)))) hg5 hAd
      have hbx5 : Blk w5 w.heap.size 128 S := Blk.grown (by (repeat' (first | (with_reducible assumption) | (with_reducible refine Blk.top _ (by first | rfl | omega | (simp; done) | (simp; omega)) rfl) | (with_reducible refine Blk.alloc ?_ _) | (with_reducible refine Blk.drew ?_) | (with_reducible refine Blk.drewN ?_ _) | (with_reducible refine Blk.far ?_ (by first | omega | (simp; done) | (simp; omega)) _)))) hg5 (fun e => by have := hH.out.wa.lt _ (show (Value.slice A D.waits.length c).ownBlock = some w.heap.size by cases A with | none => cases e | some a => simpa [Value.ownBlock] using e); omega)
      have d54 : w5.cell? ⟨p.d, 4, none⟩ = some (.slice A D.waits.length c) := hst5.cell 4
      have f54 := hst5.frozen 4
      refine hK.out _ _ (hbx5.range (n := 128) (by rw [List.drop_zero, List.take_of_length_le (by rw [hlb.out]; omega)])) (fun hHeld => ?_)
      clear hK K
      try simp only [List.getElem_toArray, List.getElem_cons_zero, List.getElem_cons_succ, Act.put, List.setIfInBounds_toArray, List.set_cons_zero, List.set_cons_succ]
      refine wpAnyH_take (i := 10) (v := ?_) rfl (by decide +kernel) (by decide +kernel) (by decide +kernel) (fun _ _ _ h => h) (Or.inl ⟨by rfl, ?_⟩) (by assumption) ?_
      rotate_left 1
      · (intro w hSw; (try dsimp only at hSw); go_simp; try (with_reducible rfl))
      try simp only [List.getElem_toArray, List.getElem_cons_zero, List.getElem_cons_succ, Act.put, List.setIfInBounds_toArray, List.set_cons_zero, List.set_cons_succ]
      refine wpAnyH_take (i := 11) (v := ?_) rfl (by decide +kernel) (by decide +kernel) (by decide +kernel) (fun _ _ _ h => h) (Or.inl ⟨by rfl, ?_⟩) (by assumption) ?_
      rotate_left 1
      · (intro w hSw; (try dsimp only at hSw); go_simp; try (with_reducible rfl))
      try simp only [List.getElem_toArray, List.getElem_cons_zero, List.getElem_cons_succ, Act.put, List.setIfInBounds_toArray, List.set_cons_zero, List.set_cons_succ]
      refine wpAnyH_ready (rs := [12]) (by decide +kernel) (by simp) ?_
      refine AllReadyH.cons rfl (fun K hK => ?_) AllReadyH.nil
      go_simp
      have hbx6 : Blk (w5.setCell ⟨p.d, 4, none⟩ (.slice A5 (D.waits.length + 1) c5)) w.heap.size 128 S := hbx5.far (by show w.heap.size ≠ p.d; omega) _
      refine hK.out _ _ (hbx6.range (n := 128) (by rw [List.drop_zero, List.take_of_length_le (by rw [hlb.out]; omega)])) (fun hHeld => ?_)
      clear hK K
      try simp only [List.getElem_toArray, List.getElem_cons_zero, List.getElem_cons_succ, Act.put, List.setIfInBounds_toArray, List.set_cons_zero, List.set_cons_succ]
      refine wpAnyH_done (by decide +kernel) ?_ _
      have k5 : Keep (fun g => A.map (·.block) = some g) w w5 := (((Keep.refl _ w).alloc _).alloc _).drewD.then_grown hg5 (fun g e => e)
      have h5 := hH.out.turnWaits k5 hown5 ⟨hk, hbl.out⟩ hw
      have H5 := Lib.hid h5
      obtain ⟨e0, e1, e2, e3, e4, e5, e6, e7, e8⟩ := h5.cells
      have hth : (w5.setCell ⟨p.d, 4, none⟩ (.slice A5 (D.waits.length + 1) c5)).there p.gn (k * 128) 128 := h5.bn.there (k * 128) 128 (by rw [List.length_map]; have := h5.ok.now; simp only at this; rw [this]; omega)
      have em := boolCell h5.bm k (by rw [h5.ok.might]; exact hk)
      have fm := h5.bm.frozen k
      generalize hW6 : w5.setCell ⟨p.d, 4, none⟩ (.slice A5 (D.waits.length + 1) c5) = w6 at *
      have HW6 := Lib.hid hW6
      have fmH := Lib.hid fm
      have emH := Lib.hid em
      have hthH := Lib.hid hth
      have hbx : Blk w6 w.heap.size 128 S := hbx6
      clear hW6 h5 d54 f54 fm em hth
      simp only at e1 e3
      go_wp2
      refine wp_region_held_drew (S := fun w' => w'.cell? ⟨p.d, 1, none⟩ = some (.slice (some ⟨p.gn, 0, none⟩) D.many D.many) ∧ w'.cell? ⟨p.d, 3, none⟩ = some (.slice (some ⟨p.gm, 0, none⟩) D.many D.many) ∧ w'.rangeAt w.heap.size 0 S) (by kernel_rfl) ⟨e1, e3, hbx.drew.range (n := 128) (by rw [List.drop_zero, List.take_of_length_le (by rw [hlb.out]; omega)])⟩ (fun hHeld => ?_)
      refine wpAnyH_take (i := 0) (v := ?_) rfl (by decide +kernel) (by decide +kernel) (by decide +kernel) (fun _ _ _ h => h) (Or.inl ⟨by rfl, ?_⟩) (by assumption) ?_
      rotate_left 1
      · (intro w hSw; (try dsimp only at hSw); go_simp; try (with_reducible rfl))
      try simp only [List.getElem_toArray, List.getElem_cons_zero, List.getElem_cons_succ, Act.put, List.setIfInBounds_toArray, List.set_cons_zero, List.set_cons_succ]
      refine wpAnyH_take (i := 1) (v := ?_) rfl (by decide +kernel) (by decide +kernel) (by decide +kernel) (fun _ _ _ h => h) (Or.inl ⟨by rfl, ?_⟩) (by assumption) ?_
      rotate_left 1
      · (intro w hSw; (try dsimp only at hSw); go_simp; try (with_reducible rfl))
      try simp only [List.getElem_toArray, List.getElem_cons_zero, List.getElem_cons_succ, Act.put, List.setIfInBounds_toArray, List.set_cons_zero, List.set_cons_succ]
      refine wpAnyH_take (i := 2) (v := ?_) rfl (by decide +kernel) (by decide +kernel) (by decide +kernel) (fun _ _ _ h => h) (Or.inl ⟨by rfl, ?_⟩) (by assumption) ?_
      rotate_left 1
      · (intro w hSw; (try dsimp only at hSw); go_simp; try (with_reducible rfl))
      try simp only [List.getElem_toArray, List.getElem_cons_zero, List.getElem_cons_succ, Act.put, List.setIfInBounds_toArray, List.set_cons_zero, List.set_cons_succ]
      refine wpAnyH_take (i := 3) (v := ?_) rfl (by decide +kernel) (by decide +kernel) (by decide +kernel) (fun _ _ _ h => h) (Or.inl ⟨by rfl, ?_⟩) (by assumption) ?_
      rotate_left 1
      · (intro w hSw; (try dsimp only at hSw); obtain ⟨s1, s3, s5⟩ := hSw; go_simp; rfl)
      try simp only [List.getElem_toArray, List.getElem_cons_zero, List.getElem_cons_succ, Act.put, List.setIfInBounds_toArray, List.set_cons_zero, List.set_cons_succ]
      refine wpAnyH_take (i := 4) (v := ?_) rfl (by decide +kernel) (by decide +kernel) (by decide +kernel) (fun _ _ _ h => h) (Or.inl ⟨by rfl, ?_⟩) (by assumption) ?_
      rotate_left 1
      · (intro w hSw; (try dsimp only at hSw); go_simp; try (with_reducible rfl))
      try simp only [List.getElem_toArray, List.getElem_cons_zero, List.getElem_cons_succ, Act.put, List.setIfInBounds_toArray, List.set_cons_zero, List.set_cons_succ]
      refine wpAnyH_take (i := 5) (v := ?_) rfl (by decide +kernel) (by decide +kernel) (by decide +kernel) (fun _ _ _ h => h) (Or.inl ⟨by rfl, ?_⟩) (by assumption) ?_
      rotate_left 1
      · (intro w hSw; (try dsimp only at hSw); go_simp; try (with_reducible rfl))
      try simp only [List.getElem_toArray, List.getElem_cons_zero, List.getElem_cons_succ, Act.put, List.setIfInBounds_toArray, List.set_cons_zero, List.set_cons_succ]
      refine wpAnyH_take (i := 6) (v := ?_) rfl (by decide +kernel) (by decide +kernel) (by decide +kernel) (fun _ _ _ h => h) (Or.inl ⟨by rfl, ?_⟩) (by assumption) ?_
      rotate_left 1
      · (intro w hSw; (try dsimp only at hSw); go_simp; try (with_reducible rfl))
      try simp only [List.getElem_toArray, List.getElem_cons_zero, List.getElem_cons_succ, Act.put, List.setIfInBounds_toArray, List.set_cons_zero, List.set_cons_succ]
      refine wpAnyH_take (i := 7) (v := ?_) rfl (by decide +kernel) (by decide +kernel) (by decide +kernel) (fun _ _ _ h => h) (Or.inl ⟨by rfl, ?_⟩) (by assumption) ?_
      rotate_left 1
      · (intro w hSw; (try dsimp only at hSw); go_simp; try (with_reducible rfl))
      try simp only [List.getElem_toArray, List.getElem_cons_zero, List.getElem_cons_succ, Act.put, List.setIfInBounds_toArray, List.set_cons_zero, List.set_cons_succ]
      refine wpAnyH_take (i := 8) (v := ?_) rfl (by decide +kernel) (by decide +kernel) (by decide +kernel) (fun _ _ _ h => h) (Or.inl ⟨by rfl, ?_⟩) (by assumption) ?_
      rotate_left 1
      · (intro w hSw; (try dsimp only at hSw); obtain ⟨s1, s3, s5⟩ := hSw; go_simp; rfl)
      try simp only [List.getElem_toArray, List.getElem_cons_zero, List.getElem_cons_succ, Act.put, List.setIfInBounds_toArray, List.set_cons_zero, List.set_cons_succ]
      refine wpAnyH_take (i := 9) (v := ?_) rfl (by decide +kernel) (by decide +kernel) (by decide +kernel) (fun _ _ _ h => h) (Or.inl ⟨by rfl, ?_⟩) (by assumption) ?_
      rotate_left 1
      · (intro w hSw; (try dsimp only at hSw); go_simp; try (with_reducible rfl))
      try simp only [List.getElem_toArray, List.getElem_cons_zero, List.getElem_cons_succ, Act.put, List.setIfInBounds_toArray, List.set_cons_zero, List.set_cons_succ]
      refine wpAnyH_take (i := 10) (v := _) rfl (by decide +kernel) (by decide +kernel) (by decide +kernel) (fun _ _ _ h => h) (yieldsIf_load_mid (by rfl) _ _ rfl _ _ rfl S _ (fun _ h => h.2.2) Try.underlying128 rfl (by rw [hlb.out]; exact Hi.out)) (by assumption) ?_
      try simp only [List.getElem_toArray, List.getElem_cons_zero, List.getElem_cons_succ, Act.put, List.setIfInBounds_toArray, List.set_cons_zero, List.set_cons_succ]
      refine wpAnyH_take (i := 11) (v := ?_) rfl (by decide +kernel) (by decide +kernel) (by decide +kernel) (fun _ _ _ h => h) (Or.inl ⟨by rfl, ?_⟩) (by assumption) ?_
      rotate_left 1
      · (intro w hSw; (try dsimp only at hSw); go_simp; try (with_reducible rfl))
      try simp only [List.getElem_toArray, List.getElem_cons_zero, List.getElem_cons_succ, Act.put, List.setIfInBounds_toArray, List.set_cons_zero, List.set_cons_succ]
      refine wpAnyH_ready (rs := [12]) (by decide +kernel) (by simp) ?_
      refine AllReadyH.cons rfl (fun K hK => ?_) AllReadyH.nil
      rw [if_pos (by rfl)]
      refine wp_store_mid 128 (.tmp 50) (.tmp 49) rfl p.gn (k * 128) S.toArray rfl rfl (by rw [List.size_toArray, hlb.out]; exact (World.there_drew _ _ _ _).2 hthH.out) (by rw [List.size_toArray, hlb.out]; exact Hi.out) (all_oneCell_toArray hsm.out) ?_
      have hD : DiskAt w6.drew base p A5 c5 { D with waits := D.waits ++ [(k, b)] } := H5.out.drewN 1
      have hbn7 := Blk.setCells S (k * 128) w6.drew _ hD.bn (by rw [List.length_map, hlb.out]; have := H5.out.ok.now; simp only at this; rw [this]; omega)
      have kn7 : Keep (· = p.gn) w6.drew (w6.drew.setCells p.gn (k * 128) S) := Keep.one (grown_setCells _ _ _ _)
      rw [← HB.out, splice_map] at hbn7
      have h7 := DiskAt.turnNow (w' := w6.drew.setCells p.gn (k * 128) S) (l := splice D.now (k * 128) b) hD kn7 (by rw [← HB.out]; exact hbn7) (by rw [splice_len (by rw [H5.out.ok.now, hbl.out]; simp only; omega)]; exact H5.out.ok.now)
      have H7 := Lib.hid h7
      have hbx7 : Blk (w6.drew.setCells p.gn (k * 128) S) w.heap.size 128 S := hbx.drew.setCellsFar (by omega) S (k * 128) _
      have em7 := boolCell h7.bm k (by rw [h7.ok.might]; exact hk)
      have fm7 := h7.bm.frozen k
      have g1 := h7.cells.2.1
      have g3 := h7.cells.2.2.2.1
      simp only at g1 g3
      simp only [List.toList_toArray]
      clear h7
      generalize w6.drew.setCells p.gn (k * 128) S = w7 at *
      refine hK.out _ _ (⟨g1, g3, hbx7.range (n := 128) (by rw [List.drop_zero, List.take_of_length_le (by rw [hlb.out]; omega)])⟩) (fun hHeld => ?_)
      clear hK K
      try simp only [List.getElem_toArray, List.getElem_cons_zero, List.getElem_cons_succ, Act.put, List.setIfInBounds_toArray, List.set_cons_zero, List.set_cons_succ]
      refine wpAnyH_take (i := 13) (v := ?_) rfl (by decide +kernel) (by decide +kernel) (by decide +kernel) (fun _ _ _ h => h) (Or.inl ⟨by rfl, ?_⟩) (by assumption) ?_
      rotate_left 1
      · (intro w hSw; (try dsimp only at hSw); go_simp; try (with_reducible rfl))
      try simp only [List.getElem_toArray, List.getElem_cons_zero, List.getElem_cons_succ, Act.put, List.setIfInBounds_toArray, List.set_cons_zero, List.set_cons_succ]
      refine wpAnyH_ready (rs := [14]) (by decide +kernel) (by simp) ?_
      refine AllReadyH.cons rfl (fun K hK => ?_) AllReadyH.nil
      go_simp
      have h8 := H7.out.setMight k true
      have hbx8 : Blk (w7.setCell ⟨p.gm, k, none⟩ (.bool true)) w.heap.size 128 S := hbx7.far (by show w.heap.size ≠ p.gm; omega) _
      have g18 := h8.cells.2.1
      have g38 := h8.cells.2.2.2.1
      simp only at g18 g38
      have H8 := Lib.hid h8
      clear h8
      refine hK.out _ _ (⟨g18, g38, hbx8.range (n := 128) (by rw [List.drop_zero, List.take_of_length_le (by rw [hlb.out]; omega)])⟩) (fun hHeld => ?_)
      clear hK K
      try simp only [List.getElem_toArray, List.getElem_cons_zero, List.getElem_cons_succ, Act.put, List.setIfInBounds_toArray, List.set_cons_zero, List.set_cons_succ]
      refine wpAnyH_done (by decide +kernel) ?_ _
      have H8' : Hid (DiskAt (w7.setCell ⟨p.gm, k, none⟩ (.bool true)) base p A5 c5 (putD D (k : Int) b)) := H8.out
      have k8 : Keep (foot p A) w (w7.setCell ⟨p.gm, k, none⟩ (.bool true)) := by
        have a5 : Keep (foot p A) w w6 := by rw [← HW6.out]; exact (k5.mono (fun g _ e => .inr (.inr (.inr (.inr (.inr (.inr e))))))).set_ _ (.inl rfl)
        exact ((a5.drewD.trans kn7 (fun g _ e => .inr (.inr (.inl e)))).set_ _ (.inr (.inr (.inr (.inr (.inl rfl))))))
      generalize w7.setCell ⟨p.gm, k, none⟩ (.bool true) = w8 at *
      obtain ⟨bb, hbb⟩ : ∃ bb, (D.cut == 0) = bb := ⟨_, rfl⟩
      have hgo : Calls Try.prog 112 #[.pointer (some ⟨p.d, 0, none⟩), .int .i64 2] w8 fun e w' => e = .returned (.bool bb) ∧ DiskAt w' base p A5 c5 (goesV (putD D (k : Int) b) 2) ∧ Keep (foot p A5) w8 w' := (goes_any H8'.out 2).mono fun e w' ⟨h1, h2, h3, _⟩ => ⟨by rw [h1, ← hbb]; rfl, h2, h3⟩
      have hnew : ∀ g, A5.map (·.block) = some g → A.map (·.block) = some g ∨ w.heap.size ≤ g := fun g e => by
        rcases hat5 with q | q
        · exact .inl (q ▸ e)
        · rw [q] at e
          injection e with e
          exact .inr (by rw [← e]; simp; omega)
      have hG : ∀ g, g < w.heap.size → foot p A5 g → foot p A g := fun g hg e => by
        rcases e with e | e | e | e | e | e | e
        · exact .inl e
        · exact .inr (.inl e)
        · exact .inr (.inr (.inl e))
        · exact .inr (.inr (.inr (.inl e)))
        · exact .inr (.inr (.inr (.inr (.inl e))))
        · exact .inr (.inr (.inr (.inr (.inr (.inl e)))))
        · rcases hnew g e with q | q
          · exact .inr (.inr (.inr (.inr (.inr (.inr q)))))
          · omega
      have hret : Hid (cutE D = if bb = true then 50 else 0) := by
        show _ = _
        unfold cutE
        rw [← hbb]
        by_cases q : D.cut = 0
        · rw [if_pos q, if_pos (by rw [q]; rfl)]
        · rw [if_neg q, if_neg (by rw [beq_iff_eq]; exact q)]
      clear hbb em7 fm7 g1 g3 g18 g38 e0 e1 e2 e3 e4 e5 e6 e7 e8
      cases bb
      all_goals
        go_wp2_with (first
          | ((go_at_call 112; (with_reducible refine (hgo).mono ?_); rintro e w9 ⟨rfl, h9, k9⟩); have H9 := Lib.hid h9; clear h9)
          | fail "no arm")
        go_ret
        exact WrPost.mk (by rw [hret.out]; rfl) H9.out (k8.trans k9 hG) hnew

theorem DiskNext.same (h : DiskAt w base p A c D) {w' : World} (hb : Below w.heap.size w w') : DiskNext w base p A D w' := ⟨A, c, h.below hb, Keep.of_below hb, fun _ e => .inl e⟩
theorem write_no (h : DiskAt w base p A c D) (n : Int) (b : List UInt8) (hn : mayV D n ≠ 0) :
    Calls Try.prog 110 #[.pointer (some ⟨p.d, 0, none⟩), .int .i64 n, aggB b] w fun e w' => e = .returned (.int .i64 (mayV D n)) ∧ Below w.heap.size w w' := by
  have hmay : ∀ o, Calls Try.prog 111 #[.pointer (some ⟨p.d, 0, none⟩), .int .i64 n] (w.alloc o) fun e w' => e = .returned (.int .i64 (mayV D n)) ∧ (w.alloc o) = w' := fun o => may_any (h.alloc o) n
  have hne : (mayV D n != 0) = true := by rw [bne_iff_ne]; exact hn
  unfold aggB
  generalize b.map bv = S at *
  generalize mayV D n = z at *
  clear h hn
  go_enter Try.func110, Try.ntmps110
  go_wp2_with (first
    | (go_at_call 111; (with_reducible refine (hmay _).mono ?_); rintro e w1 ⟨rfl, rfl⟩)
    | fail "no arm")
  go_ret
  exact ⟨rfl, (by (repeat' (first | (with_reducible exact Below.refl _ _) | (with_reducible assumption) | (with_reducible refine Below.drew ?_) | (with_reducible refine below_drewN ?_ _) | (with_reducible refine Below.alloc ?_ ?_ _) | (with_reducible refine Below.setCell ?_ ?_ _) | omega | (simp; done) | (simp; omega))))⟩
theorem write_full (h : DiskAt w base p A c D) (n : Int) (b : List UInt8) (hn : mayV D n = 0) (hf : fullB D n = true) :
    Calls Try.prog 110 #[.pointer (some ⟨p.d, 0, none⟩), .int .i64 n, aggB b] w fun e w' => e = .returned (.int .i64 52) ∧ Below w.heap.size w w' := by
  have hmay : ∀ o, Calls Try.prog 111 #[.pointer (some ⟨p.d, 0, none⟩), .int .i64 n] (w.alloc o) fun e w' => e = .returned (.int .i64 (mayV D n)) ∧ (w.alloc o) = w' := fun o => may_any (h.alloc o) n
  rw [hn] at hmay
  obtain ⟨_, h0, h1⟩ := mayV_zero hn
  obtain ⟨k, rfl⟩ : ∃ k : Nat, n = (k : Int) := ⟨n.toNat, by omega⟩
  have hk : k < D.many := by omega
  have hl8 := h.st.lt
  have hl7 := h.bm.lt
  have hleft : ∀ o, Calls Try.prog 134 #[.pointer (some ⟨p.d, 0, none⟩)] (w.alloc o) fun e w' => e = .returned (.int .i64 (D.room - (trues D.might : Nat))) ∧ (w.alloc o) = w' := fun o => left_any (h.alloc o)
  have cm := boolCell h.bm k (by rw [h.ok.might]; exact hk)
  have c3 := h.cells.2.2.2.1
  unfold fullB at hf
  rw [Int.toNat_natCast] at hf
  unfold aggB
  generalize b.map bv = S at *
  clear h hn
  generalize D.might.getD k false = mg at *
  cases mg with
  | true => simp at hf
  | false =>
    have hf' : (D.room - ((trues D.might : Nat) : Int) == 0) = true := hf
    generalize D.room - ((trues D.might : Nat) : Int) = left at *
    clear hf
    go_enter Try.func110, Try.ntmps110
    go_wp2_with (first
      | (go_at_call 111; (with_reducible refine (hmay _).mono ?_); rintro e w1 ⟨rfl, rfl⟩)
      | (go_at_call 134; (with_reducible refine (hleft _).mono ?_); rintro e w1 ⟨rfl, rfl⟩)
      | fail "no arm")
    go_ret
    exact ⟨rfl, (by (repeat' (first | (with_reducible exact Below.refl _ _) | (with_reducible assumption) | (with_reducible refine Below.drew ?_) | (with_reducible refine below_drewN ?_ _) | (with_reducible refine Below.alloc ?_ ?_ _) | (with_reducible refine Below.setCell ?_ ?_ _) | omega | (simp; done) | (simp; omega))))⟩
theorem write_any (h : DiskAt w base p A c D) (n : Int) (b : List UInt8) (hb : b.length = 128) (hw : D.waits.length < 1000000) (hbase : base ≤ w.heap.size) :
    Calls Try.prog 110 #[.pointer (some ⟨p.d, 0, none⟩), .int .i64 n, aggB b] w fun e w' => e = .returned (.int .i64 (writeV D n b).2) ∧ DiskNext w base p A (writeV D n b).1 w' := by
  unfold writeV
  by_cases hn : mayV D n = 0
  · rw [if_neg (by omega)]
    cases hf : fullB D n with
    | true =>
      rw [if_pos rfl]
      exact (write_full h n b hn hf).mono fun e w' ⟨h1, h2⟩ => ⟨h1, DiskNext.same h h2⟩
    | false =>
      rw [if_neg (by simp)]
      exact write_ok h n b hb hn hf hw hbase
  · rw [if_pos hn]
    exact (write_no h n b hn).mono fun e w' ⟨h1, h2⟩ => ⟨h1, DiskNext.same h h2⟩
end
end Go.Proofs.Ytalmdccgpigppaa
