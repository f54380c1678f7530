/- DiskNone: a disk that may not be is none, and none does anything. -/
import Derived.Test.YtninidpbchcliaaDiskJ
import Derived.Test.YtninidpbchcliaaDiskK
import Derived.Test.YtninidpbchcliaaFrameC
import Derived.Test.YtninidpbchcliaaSealC
namespace Go.Proofs.Ytninidpbchcliaa.diskNone
open Go.ChangeShapes Go.WideShapes Go.ChangeAt Go.RowKit
set_option linter.unusedVariables false

section
variable {H : Type} {enc : TypeId × Value → H} {w : World} {base b0 : Nat} {held : Bool} {r : Reach} {v : Value} {d : DataW H} {ps : List MemPlace}
set_option maxRecDepth 100000 in
theorem args_do6 (hval : Value.okWide Try.prog w r b0 31 v) (hd : DataW.Trod enc Try.prog w base (fun _ => true) held 31 v d ps) :
    ∃ k n B m c bs, v = .agg #[.int .i64 k, .int .i64 n, .slice B m c] ∧ RB w B m bs ∧ m ≤ c ∧ c ≤ maxLen := by
  obtain ⟨vs, n, rfl, hlen, hf⟩ := open_agg Try.underlying31 (by kernel_rfl) (by kernel_rfl) hval hd
  match vs, hlen with
  | [v0, v1, v2], _ =>
    obtain ⟨u0, y0, e0, t0⟩ := hf 0 _ rfl
    obtain ⟨u1, y1, e1, t1⟩ := hf 1 _ rfl
    obtain ⟨u2, y2, e2, t2⟩ := hf 2 _ rfl
    injection e0 with e0; injection e1 with e1; injection e2 with e2
    subst e0 e1 e2
    obtain ⟨z0, hz0, _, hw0⟩ := DataW.trod_int Try.underlying3 t0
    obtain ⟨z1, hz1, _, hw1⟩ := DataW.trod_int Try.underlying3 t1
    have hz0 : v0 = .int .i64 z0 := by simpa using hz0
    have hz1 : v1 = .int .i64 z1 := by simpa using hz1
    subst hz0 hz1
    obtain ⟨B, m, c, l, rfl, r1, k1, m1⟩ := trod_bytes Try.underlying23 Try.underlying5 (by kernel_rfl) t2
    exact ⟨z0, z1, B, m, c, l, rfl, r1, k1, m1⟩
end
theorem walk_big (s room k n : Int) (B : Option Addr) (m c : Nat) (w : World) (hm : 200 < m) (hmx : m ≤ maxLen) :
    Calls Try.prog 5 #[.int .i64 s, .int .i64 room, .agg #[.int .i64 k, .int .i64 n, .slice B m c]] w fun e w' => e = .returned (.bool true) ∧ Below w.heap.size w w' := by
  unfold maxLen at hmx
  go_enter Try.func5, Try.ntmps5
  go_wp2_with (first
    | ((go_at_call 15; (with_reducible refine (awake6 _).mono ?_); rintro e w1 ⟨rfl, hb1⟩); have hx1 := Blk.below (w' := w1) (g := w.heap.size) (t := 31) (cs := [.int .i64 k, .int .i64 n, .slice B m c]) (by (repeat' (first | (with_reducible assumption) | (with_reducible refine Blk.top _ (by first | rfl | omega | (simp; done) | (simp; omega)) rfl) | (with_reducible refine Blk.alloc ?_ _) | (with_reducible refine Blk.drew ?_) | (with_reducible refine Blk.drewN ?_ _) | (with_reducible refine Blk.far ?_ (by first | omega | (simp; done) | (simp; omega)) _)))) hb1 (by first | omega | (simp; done) | (simp; omega)); have x2 : w1.cell? ⟨w.heap.size, 2, none⟩ = some (.slice B m c) := hx1.cell 2; have sz1 := hx1.lt; replace hb1 := below_then' (a := w) (B := w.heap.size) (by (repeat' (first | (with_reducible exact Below.refl _ _) | (with_reducible assumption) | (with_reducible refine Below.drew ?_) | (with_reducible refine below_drewN ?_ _) | (with_reducible refine Below.alloc ?_ ?_ _) | (with_reducible refine Below.setCell ?_ ?_ _) | omega | (simp; done) | (simp; omega)))) hb1 (by first | omega | (simp; done) | (simp; omega)); have hb1s := hb1.size)
    | fail "no arm")
  go_ret
  exact ⟨rfl, (by (repeat' (first | (with_reducible exact Below.refl _ _) | (with_reducible assumption) | (with_reducible refine Below.drew ?_) | (with_reducible refine below_drewN ?_ _) | (with_reducible refine Below.alloc ?_ ?_ _) | (with_reducible refine Below.setCell ?_ ?_ _) | omega | (simp; done) | (simp; omega))))⟩
def ptrV (A : Option Addr) : Value := .pointer A
theorem ptrV_one (A : Option Addr) : (ptrV A).oneCell' = true := rfl
theorem elemPtr : ElemOf Try.prog 51 26 (.pointer none) 1 8 := ElemOf.mk' Try.underlying51 (by kernel_rfl) rfl (by decide)
theorem eqZ {Z : List Value} (hZ : Z = zerosL.map bv) (w : World) : (Op.equalIn 10000 33 (.agg Z.toArray) (.agg Z.toArray)).run Try.prog w = .ok true w := by
  rw [hZ, eq128 zerosL zerosL zerosL_len zerosL_len]; simp
theorem own2 (w1 : World) (o : Obj) (e : TypeId) (x : Option Addr) : Ow ptrV ((w1.alloc o).alloc (.cells #[.pointer none, .pointer x] e)) (w1.heap.size + 1) e (some ⟨w1.heap.size + 1, 0, none⟩) 2 2 [none, x] := by
  have := Ow.new (enc := ptrV) (w1.alloc o) e #[.pointer none, .pointer x] [none, x] rfl (by unfold maxLen; simp)
  simpa using this
/-- What the loop knows. -/
structure LpAt (w0 w : World) (gx : Nat) (cx : List Value) (Al : Option Addr) (N : Nat) (L : List (Option Addr)) : Prop where
  bel : Below w0.heap.size w0 w
  x : Blk w gx 31 cx
  l : Rd ptrV w Al N L
  no : ∀ d ∈ L, NoDisk w d
theorem NoDisk.below {w w' : World} {d : Option Addr} {B : Nat} (h : NoDisk w d) (hb : Below B w w') (hB : w.heap.size ≤ B) : NoDisk w' d := by
  rcases h with rfl | ⟨g, rfl, h⟩
  · exact .inl rfl
  · have := World.block_lt_of_cell? w ⟨g, 8, none⟩ h
    exact .inr ⟨g, rfl, by rw [hb.cell (p := ⟨g, 8, none⟩) (by show g < B; simp at this; omega)]; exact h⟩
theorem LpAt.then_ {w0 w w' : World} {gx : Nat} {cx : List Value} {Al : Option Addr} {N : Nat} {L : List (Option Addr)} (h : LpAt w0 w gx cx Al N L) (hb : Below w.heap.size w w') : LpAt w0 w' gx cx Al N L :=
  ⟨h.bel.trans (hb.mono h.bel.size), h.x.below hb h.x.lt, h.l.below hb (Nat.le_refl _), fun d hd => NoDisk.below (h.no d hd) hb (Nat.le_refl _)⟩
set_option maxRecDepth 100000 in
set_option maxHeartbeats 8000000 in
theorem walk_may (s room k n : Int) (B : Option Addr) (m c : Nat) (w : World) (hm : m ≤ 200) (h1 : 1 ≤ s) (h2 : s ≤ 4096) (h3 : 0 ≤ room) (h4 : room ≤ s) :
    Calls Try.prog 5 #[.int .i64 s, .int .i64 room, .agg #[.int .i64 k, .int .i64 n, .slice B m c]] w fun e w' => e = .returned (.bool true) ∧ Below w.heap.size w w' := by
  have hz := (zero_of_info zero128).1
  have Hi := Lib.hid (zero_of_info zero128).2
  have hlz : Hid ((zerosL.map bv).length = 128) := by show _ = _; simp [zerosL_len]
  obtain ⟨Z, hZ'⟩ : ∃ Z, Z = zerosL.map bv := ⟨_, rfl⟩
  have heq := fun w => eqZ hZ' w
  have hZ := Lib.hid hZ'
  have hZm : Hid (∀ v ∈ Z, v.oneCell' = true) := by show ∀ v ∈ Z, _; rw [hZ']; exact mem_bv
  unfold aggB at hz
  rw [← hZ'] at hz
  have hlz : Hid (Z.length = 128) := by show _ = _; rw [hZ']; simp [zerosL_len]
  clear hZ'
  go_enter Try.func5, Try.ntmps5
  go_wp2_with (first
    | ((go_at_call 15; (with_reducible refine (awake6 _).mono ?_); rintro e w1 ⟨rfl, hb1⟩); have hx1 := Blk.below (w' := w1) (g := w.heap.size) (t := 31) (cs := [.int .i64 k, .int .i64 n, .slice B m c]) (by (repeat' (first | (with_reducible assumption) | (with_reducible refine Blk.top _ (by first | rfl | omega | (simp; done) | (simp; omega)) rfl) | (with_reducible refine Blk.alloc ?_ _) | (with_reducible refine Blk.drew ?_) | (with_reducible refine Blk.drewN ?_ _) | (with_reducible refine Blk.far ?_ (by first | omega | (simp; done) | (simp; omega)) _)))) hb1 (by first | omega | (simp; done) | (simp; omega)); have x2 : w1.cell? ⟨w.heap.size, 2, none⟩ = some (.slice B m c) := hx1.cell 2; have sz1 := hx1.lt; replace hb1 := below_then' (a := w) (B := w.heap.size) (by (repeat' (first | (with_reducible exact Below.refl _ _) | (with_reducible assumption) | (with_reducible refine Below.drew ?_) | (with_reducible refine below_drewN ?_ _) | (with_reducible refine Below.alloc ?_ ?_ _) | (with_reducible refine Below.setCell ?_ ?_ _) | omega | (simp; done) | (simp; omega)))) hb1 (by first | omega | (simp; done) | (simp; omega)); have hb1s := hb1.size)
    | fail "no arm")
  have hX1 := Lib.hid hx1
  go_loopw [11, 12, 13, 52] (fun _ _ _ i wr => ∃ jn : Nat, jn ≤ 2 ∧ i = .int .i64 (jn : Nat) ∧ LpAt w wr w.heap.size [.int .i64 k, .int .i64 n, .slice B m c] (some ⟨w1.heap.size + 1, 0, none⟩) 2 [none, some ⟨w1.heap.size, 0, none⟩]) (fun _ _ _ i _ => 2 - (intOf i).toNat)
  case atStart =>
    have hbk : Blk ((w1.alloc (.cells #[.slice none 0 0, .slice none 0 0, .slice none 0 0, .slice none 0 0, .slice none 0 0, .int .i64 0, .int .i64 0, .bool false, .pointer none] 50)).alloc (.cells #[.pointer none, .pointer (some ⟨w1.heap.size, 0, none⟩)] 26)) w1.heap.size 50 [.slice none 0 0, .slice none 0 0, .slice none 0 0, .slice none 0 0, .slice none 0 0, .int .i64 0, .int .i64 0, .bool false, .pointer none] := (by (repeat' (first | (with_reducible assumption) | (with_reducible refine Blk.top _ (by first | rfl | omega | (simp; done) | (simp; omega)) rfl) | (with_reducible refine Blk.alloc ?_ _) | (with_reducible refine Blk.drew ?_) | (with_reducible refine Blk.drewN ?_ _) | (with_reducible refine Blk.far ?_ (by first | omega | (simp; done) | (simp; omega)) _))))
    have hbL : Blk ((w1.alloc (.cells #[.slice none 0 0, .slice none 0 0, .slice none 0 0, .slice none 0 0, .slice none 0 0, .int .i64 0, .int .i64 0, .bool false, .pointer none] 50)).alloc (.cells #[.pointer none, .pointer (some ⟨w1.heap.size, 0, none⟩)] 26)) (w1.heap.size + 1) 26 [.pointer none, .pointer (some ⟨w1.heap.size, 0, none⟩)] := (by (repeat' (first | (with_reducible assumption) | (with_reducible refine Blk.top _ (by first | rfl | omega | (simp; done) | (simp; omega)) rfl) | (with_reducible refine Blk.alloc ?_ _) | (with_reducible refine Blk.drew ?_) | (with_reducible refine Blk.drewN ?_ _) | (with_reducible refine Blk.far ?_ (by first | omega | (simp; done) | (simp; omega)) _))))
    have hbx := hX1.out
    have hrdL := Rd.of_block (enc := ptrV) (l := [none, some ⟨w1.heap.size, 0, none⟩]) hbL rfl
    refine ⟨0, by omega, rfl, (by (repeat' (first | (with_reducible exact Below.refl _ _) | (with_reducible assumption) | (with_reducible refine Below.drew ?_) | (with_reducible refine below_drewN ?_ _) | (with_reducible refine Below.alloc ?_ ?_ _) | (with_reducible refine Below.setCell ?_ ?_ _) | omega | (simp; done) | (simp; omega)))), (by (repeat' (first | (with_reducible assumption) | (with_reducible refine Blk.top _ (by first | rfl | omega | (simp; done) | (simp; omega)) rfl) | (with_reducible refine Blk.alloc ?_ _) | (with_reducible refine Blk.drew ?_) | (with_reducible refine Blk.drewN ?_ _) | (with_reducible refine Blk.far ?_ (by first | omega | (simp; done) | (simp; omega)) _)))), hrdL, fun d hd => ?_⟩
    simp only [List.mem_cons, List.not_mem_nil, or_false] at hd
    rcases hd with rfl | rfl
    · exact .inl rfl
    · exact .inr ⟨_, rfl, hbk.cell 8⟩
  case round =>
    obtain ⟨jn, hj, rfl, hLp⟩ := hrel
    by_cases hlt : jn < 2
    · obtain ⟨bb, oo, hA, hbb, hc⟩ := hLp.l.2.at_ hlt
      have hjl : jn < ([none, some ⟨w1.heap.size, 0, none⟩] : List (Option Addr)).length := by rw [hLp.l.1]; exact hlt
      have hdd : (([none, some ⟨w1.heap.size, 0, none⟩] : List (Option Addr)).map ptrV).getD jn undef = .pointer (([none, some ⟨w1.heap.size, 0, none⟩] : List (Option Addr))[jn]) := getD_map _ jn hjl
      rw [hdd] at hc
      have hno := hLp.no _ (List.getElem_mem hjl)
      generalize ([none, some ⟨w1.heap.size, 0, none⟩] : List (Option Addr))[jn]'hjl = dd at *
      injection hA with hA
      injection hA with hA1 hA2 _
      subst hA1 hA2
      rw [Nat.zero_add] at hc
      have x1 : wr.cell? ⟨w.heap.size, 1, none⟩ = some (.int .i64 n) := hLp.x.cell 1
      have x2 : wr.cell? ⟨w.heap.size, 2, none⟩ = some (.slice B m c) := hLp.x.cell 2
      have hcut := ncut_any hno n
      have hcrash := ncrash_any hno B m c
      have hread := nread_any hno n
      have hnoL := fun {w' : World} (hb : Below wr.heap.size wr w') => NoDisk.below hno hb (Nat.le_refl _)
      have HL := Lib.hid hLp
      have xl := hLp.x.lt
      have hjI : (jn : Int) < 2 := by omega
      unfold aggB at hread
      rw [← hZ.out] at hread
      clear hdd hLp hno
      go_wp2_with (first
        | (go_at_call 27; (with_reducible refine (hcut).mono ?_); rintro e w2 ⟨rfl, rfl⟩)
        | (go_at_call 22; (with_reducible refine (hcrash).mono ?_); rintro e w2 ⟨rfl, rfl⟩)
        | ((go_at_call 21; (with_reducible refine (hread).mono ?_); rintro e w2 ⟨rfl, hb2⟩); have L2 := Lib.hid (HL.out.then_ hb2); have s2 := hb2.size)
        | (refine wpList_store_arr rfl (x := .tmp 12) (y := .tmp 69) rfl rfl rfl (t := 33) (cs := Z) (xs := Z) (Blk.top _ rfl rfl) Hi.out hlz.out (by rw [hlz.out]; omega) hZm.out ?_; intro w3 hb3 hg3 hs3; rw [splice_all _ _ rfl] at hb3; have b3 : Below w2.heap.size w2 w3 := below_of_only ((Below.refl _ _).alloc (Nat.le_refl _) _) hg3 (by simp) (Nat.le_refl _); have s3 := b3.size; have L3 := Lib.hid (L2.out.then_ b3); have q3 := hb2.trans (b3.mono s2); have n3 := hnoL q3; have hwrite := nwrite_any n3 n zerosL; have x31 : w3.cell? ⟨w.heap.size, 1, none⟩ = some (.int .i64 n) := L3.out.x.cell 1; unfold aggB at hwrite; rw [← hZ.out] at hwrite)
        | (refine wpList_load_arr rfl (x := .tmp 12) rfl rfl hb3 Try.underlying33 Hi.out hlz.out (by rw [List.drop_zero, List.take_of_length_le (by rw [hlz.out]; omega)]) ?_)
        | ((go_at_call 18; (with_reducible refine (hwrite).mono ?_); rintro e w4 ⟨rfl, hb4⟩); have s4 := hb4.size; have L4 := Lib.hid (L3.out.then_ hb4); have q4 := q3.trans (hb4.mono (Nat.le_trans s2 s3)); have n4 := hnoL q4; have f1 := nflush_any n4; have f2 := nsize_any n4; have f3 := nleft_any n4; have f4 := nwaits_any n4; have f5 := nimage_any n4; have f6 := non_any n4; have f7 := nmeter_any n4)
        | (go_at_call 20; (with_reducible refine (f1).mono ?_); rintro e w5 ⟨rfl, rfl⟩)
        | (go_at_call 28; (with_reducible refine (f2).mono ?_); rintro e w5 ⟨rfl, rfl⟩)
        | (go_at_call 26; (with_reducible refine (f3).mono ?_); rintro e w5 ⟨rfl, rfl⟩)
        | (go_at_call 23; (with_reducible refine (f4).mono ?_); rintro e w5 ⟨rfl, rfl⟩)
        | (go_at_call 25; (with_reducible refine (f5).mono ?_); rintro e w5 ⟨rfl, rfl⟩)
        | (go_at_call 29; (with_reducible refine (f6).mono ?_); rintro e w5 ⟨rfl, rfl⟩)
        | (go_at_call 30; (with_reducible refine (f7).mono ?_); rintro e w5 ⟨rfl, rfl⟩)
        | fail "no arm")
      exact ⟨⟨jn + 1, by omega, by go_num, L4.out⟩, by simp [intOf]; omega⟩
    · have hb9 := hLp.bel
      clear hLp
      go_wp2
      go_ret
      exact ⟨rfl, hb9⟩
set_option maxRecDepth 100000 in
set_option maxHeartbeats 8000000 in
theorem walk_none (s room k n : Int) (B : Option Addr) (m c : Nat) (w : World) (hm : m ≤ 200) (h : s < 1 ∨ 4096 < s ∨ room < 0 ∨ s < room) :
    Calls Try.prog 5 #[.int .i64 s, .int .i64 room, .agg #[.int .i64 k, .int .i64 n, .slice B m c]] w fun e w' => e = .returned (.bool true) ∧ Below w.heap.size w w' := by
  have hz := (zero_of_info zero128).1
  have Hi := Lib.hid (zero_of_info zero128).2
  have hlz : Hid ((zerosL.map bv).length = 128) := by show _ = _; simp [zerosL_len]
  obtain ⟨Z, hZ'⟩ : ∃ Z, Z = zerosL.map bv := ⟨_, rfl⟩
  have heq := fun w => eqZ hZ' w
  have hZ := Lib.hid hZ'
  have hZm : Hid (∀ v ∈ Z, v.oneCell' = true) := by show ∀ v ∈ Z, _; rw [hZ']; exact mem_bv
  unfold aggB at hz
  rw [← hZ'] at hz
  have hlz : Hid (Z.length = 128) := by show _ = _; rw [hZ']; simp [zerosL_len]
  clear hZ'
  have hnew := fun w => new_no s room w h
  have hc : s < 1 ∨ (1 ≤ s ∧ 4096 < s) ∨ (1 ≤ s ∧ s ≤ 4096 ∧ room < 0) ∨ (1 ≤ s ∧ s ≤ 4096 ∧ 0 ≤ room ∧ s < room) := by omega
  clear h
  rcases hc with h1 | h1 | h1 | h1
  case' inr.inl => have h2 := h1.1; have h3 := h1.2
  case' inr.inr.inl => have h2 := h1.1; have h3 := h1.2.1; have h4 := h1.2.2
  case' inr.inr.inr => have h2 := h1.1; have h3 := h1.2.1; have h4 := h1.2.2.1; have h5 := h1.2.2.2
  all_goals
    go_enter Try.func5, Try.ntmps5
    go_wp2_with (first
      | ((go_at_call 15; (with_reducible refine (awake6 _).mono ?_); rintro e w1 ⟨rfl, hb1⟩); have hx1 := Blk.below (w' := w1) (g := w.heap.size) (t := 31) (cs := [.int .i64 k, .int .i64 n, .slice B m c]) (by (repeat' (first | (with_reducible assumption) | (with_reducible refine Blk.top _ (by first | rfl | omega | (simp; done) | (simp; omega)) rfl) | (with_reducible refine Blk.alloc ?_ _) | (with_reducible refine Blk.drew ?_) | (with_reducible refine Blk.drewN ?_ _) | (with_reducible refine Blk.far ?_ (by first | omega | (simp; done) | (simp; omega)) _)))) hb1 (by first | omega | (simp; done) | (simp; omega)); have x2 : w1.cell? ⟨w.heap.size, 2, none⟩ = some (.slice B m c) := hx1.cell 2; have sz1 := hx1.lt; replace hb1 := below_then' (a := w) (B := w.heap.size) (by (repeat' (first | (with_reducible exact Below.refl _ _) | (with_reducible assumption) | (with_reducible refine Below.drew ?_) | (with_reducible refine below_drewN ?_ _) | (with_reducible refine Below.alloc ?_ ?_ _) | (with_reducible refine Below.setCell ?_ ?_ _) | omega | (simp; done) | (simp; omega)))) hb1 (by first | omega | (simp; done) | (simp; omega)); have hb1s := hb1.size; have howA : Ow ptrV ((w1.alloc (.cells #[.slice none 0 0, .slice none 0 0, .slice none 0 0, .slice none 0 0, .slice none 0 0, .int .i64 0, .int .i64 0, .bool false, .pointer none] 50)).alloc (.cells #[.pointer none, .pointer (some ⟨w1.heap.size, 0, none⟩)] 26)) (w1.heap.size + 1) 26 (some ⟨w1.heap.size + 1, 0, none⟩) 2 2 [none, some ⟨w1.heap.size, 0, none⟩] := own2 _ _ _ _)
      | (go_at_call 17; (with_reducible refine (hnew _).mono ?_); rintro e w2 ⟨rfl, rfl⟩)
      | (at_builtin; refine wpList_app rfl rfl elemPtr ptrV_one (base := w1.heap.size + 1) (s := .tmp 46) (N := 3) (L := [none, some ⟨w1.heap.size, 0, none⟩, none]) rfl (howA.below (b := ((w1.alloc (.cells #[.slice none 0 0, .slice none 0 0, .slice none 0 0, .slice none 0 0, .slice none 0 0, .int .i64 0, .int .i64 0, .bool false, .pointer none] 50)).alloc (.cells #[.pointer none, .pointer (some ⟨w1.heap.size, 0, none⟩)] 26)).heap.size) (by (repeat' (first | (with_reducible exact Below.refl _ _) | (with_reducible assumption) | (with_reducible refine Below.drew ?_) | (with_reducible refine below_drewN ?_ _) | (with_reducible refine Below.alloc ?_ ?_ _) | (with_reducible refine Below.setCell ?_ ?_ _) | omega | (simp; done) | (simp; omega)))) (Nat.le_refl _)) rfl (k := [none]) (Rd.of_block (enc := ptrV) (l := [none]) (heap_top _ _ (by simp)) rfl) rfl rfl (by unfold maxLen; omega) (by omega) (by first | omega | (simp; done) | (simp; omega)) ?_; intro A5 c5 w5 hown5 hg5 hat5 hb5)
      | fail "no arm")
    have hX1 := Lib.hid hx1
    have b5 : Below (w1.heap.size + 1) (((w1.alloc (.cells #[.slice none 0 0, .slice none 0 0, .slice none 0 0, .slice none 0 0, .slice none 0 0, .int .i64 0, .int .i64 0, .bool false, .pointer none] 50)).alloc (.cells #[.pointer none, .pointer (some ⟨w1.heap.size, 0, none⟩)] 26)).alloc (.cells #[.pointer none] 26)) w5 := hb5
    go_loopw [11, 12, 13, 52] (fun _ _ _ i wr => ∃ jn : Nat, jn ≤ 3 ∧ i = .int .i64 (jn : Nat) ∧ LpAt w wr w.heap.size [.int .i64 k, .int .i64 n, .slice B m c] A5 3 [none, some ⟨w1.heap.size, 0, none⟩, none]) (fun _ _ _ i _ => 3 - (intOf i).toNat)
    case atStart =>
      have hbk : Blk (((w1.alloc (.cells #[.slice none 0 0, .slice none 0 0, .slice none 0 0, .slice none 0 0, .slice none 0 0, .int .i64 0, .int .i64 0, .bool false, .pointer none] 50)).alloc (.cells #[.pointer none, .pointer (some ⟨w1.heap.size, 0, none⟩)] 26)).alloc (.cells #[.pointer none] 26)) w1.heap.size 50 [.slice none 0 0, .slice none 0 0, .slice none 0 0, .slice none 0 0, .slice none 0 0, .int .i64 0, .int .i64 0, .bool false, .pointer none] := (by (repeat' (first | (with_reducible assumption) | (with_reducible refine Blk.top _ (by first | rfl | omega | (simp; done) | (simp; omega)) rfl) | (with_reducible refine Blk.alloc ?_ _) | (with_reducible refine Blk.drew ?_) | (with_reducible refine Blk.drewN ?_ _) | (with_reducible refine Blk.far ?_ (by first | omega | (simp; done) | (simp; omega)) _))))
      have hbx := hX1.out
      have hx5 : Blk w5 w.heap.size 31 [.int .i64 k, .int .i64 n, .slice B m c] := Blk.below (B := w1.heap.size + 1) (by (repeat' (first | (with_reducible assumption) | (with_reducible refine Blk.top _ (by first | rfl | omega | (simp; done) | (simp; omega)) rfl) | (with_reducible refine Blk.alloc ?_ _) | (with_reducible refine Blk.drew ?_) | (with_reducible refine Blk.drewN ?_ _) | (with_reducible refine Blk.far ?_ (by first | omega | (simp; done) | (simp; omega)) _)))) b5 (by omega)
      have hk5 := hbk.below b5 (by omega)
      refine ⟨0, by omega, rfl, (Below.trans (b := ((w1.alloc (.cells #[.slice none 0 0, .slice none 0 0, .slice none 0 0, .slice none 0 0, .slice none 0 0, .int .i64 0, .int .i64 0, .bool false, .pointer none] 50)).alloc (.cells #[.pointer none, .pointer (some ⟨w1.heap.size, 0, none⟩)] 26)).alloc (.cells #[.pointer none] 26)) (by (repeat' (first | (with_reducible exact Below.refl _ _) | (with_reducible assumption) | (with_reducible refine Below.drew ?_) | (with_reducible refine below_drewN ?_ _) | (with_reducible refine Below.alloc ?_ ?_ _) | (with_reducible refine Below.setCell ?_ ?_ _) | omega | (simp; done) | (simp; omega)))) (b5.mono (by omega))), hx5, hown5.rd, fun d hd => ?_⟩
      simp only [List.mem_cons, List.not_mem_nil, or_false] at hd
      rcases hd with rfl | rfl | rfl
      · exact .inl rfl
      · exact .inr ⟨_, rfl, hk5.cell 8⟩
      · exact .inl rfl
    case round =>
      obtain ⟨jn, hj, rfl, hLp⟩ := hrel
      by_cases hlt : jn < 3
      · obtain ⟨bb, oo, hA, hbb, hc⟩ := hLp.l.2.at_ hlt
        have hjl : jn < ([none, some ⟨w1.heap.size, 0, none⟩, none] : List (Option Addr)).length := by rw [hLp.l.1]; exact hlt
        have hdd : (([none, some ⟨w1.heap.size, 0, none⟩, none] : List (Option Addr)).map ptrV).getD jn undef = .pointer (([none, some ⟨w1.heap.size, 0, none⟩, none] : List (Option Addr))[jn]) := getD_map _ jn hjl
        rw [hdd] at hc
        have hno := hLp.no _ (List.getElem_mem hjl)
        generalize ([none, some ⟨w1.heap.size, 0, none⟩, none] : List (Option Addr))[jn]'hjl = dd at *
        subst hA
        have x1 : wr.cell? ⟨w.heap.size, 1, none⟩ = some (.int .i64 n) := hLp.x.cell 1
        have x2 : wr.cell? ⟨w.heap.size, 2, none⟩ = some (.slice B m c) := hLp.x.cell 2
        have hcut := ncut_any hno n
        have hcrash := ncrash_any hno B m c
        have hread := nread_any hno n
        have hnoL := fun {w' : World} (hb : Below wr.heap.size wr w') => NoDisk.below hno hb (Nat.le_refl _)
        have HL := Lib.hid hLp
        have xl := hLp.x.lt
        have hjI : (jn : Int) < 3 := by omega
        unfold aggB at hread
        rw [← hZ.out] at hread
        clear hdd hLp hno
        go_wp2_with (first
          | (go_at_call 27; (with_reducible refine (hcut).mono ?_); rintro e w2 ⟨rfl, rfl⟩)
          | (go_at_call 22; (with_reducible refine (hcrash).mono ?_); rintro e w2 ⟨rfl, rfl⟩)
          | ((go_at_call 21; (with_reducible refine (hread).mono ?_); rintro e w2 ⟨rfl, hb2⟩); have L2 := Lib.hid (HL.out.then_ hb2); have s2 := hb2.size)
          | (refine wpList_store_arr rfl (x := .tmp 12) (y := .tmp 69) rfl rfl rfl (t := 33) (cs := Z) (xs := Z) (Blk.top _ rfl rfl) Hi.out hlz.out (by rw [hlz.out]; omega) hZm.out ?_; intro w3 hb3 hg3 hs3; rw [splice_all _ _ rfl] at hb3; have b3 : Below w2.heap.size w2 w3 := below_of_only ((Below.refl _ _).alloc (Nat.le_refl _) _) hg3 (by simp) (Nat.le_refl _); have s3 := b3.size; have L3 := Lib.hid (L2.out.then_ b3); have q3 := hb2.trans (b3.mono s2); have n3 := hnoL q3; have hwrite := nwrite_any n3 n zerosL; have x31 : w3.cell? ⟨w.heap.size, 1, none⟩ = some (.int .i64 n) := L3.out.x.cell 1; unfold aggB at hwrite; rw [← hZ.out] at hwrite)
          | (refine wpList_load_arr rfl (x := .tmp 12) rfl rfl hb3 Try.underlying33 Hi.out hlz.out (by rw [List.drop_zero, List.take_of_length_le (by rw [hlz.out]; omega)]) ?_)
          | ((go_at_call 18; (with_reducible refine (hwrite).mono ?_); rintro e w4 ⟨rfl, hb4⟩); have s4 := hb4.size; have L4 := Lib.hid (L3.out.then_ hb4); have q4 := q3.trans (hb4.mono (Nat.le_trans s2 s3)); have n4 := hnoL q4; have f1 := nflush_any n4; have f2 := nsize_any n4; have f3 := nleft_any n4; have f4 := nwaits_any n4; have f5 := nimage_any n4; have f6 := non_any n4; have f7 := nmeter_any n4)
          | (go_at_call 20; (with_reducible refine (f1).mono ?_); rintro e w5 ⟨rfl, rfl⟩)
          | (go_at_call 28; (with_reducible refine (f2).mono ?_); rintro e w5 ⟨rfl, rfl⟩)
          | (go_at_call 26; (with_reducible refine (f3).mono ?_); rintro e w5 ⟨rfl, rfl⟩)
          | (go_at_call 23; (with_reducible refine (f4).mono ?_); rintro e w5 ⟨rfl, rfl⟩)
          | (go_at_call 25; (with_reducible refine (f5).mono ?_); rintro e w5 ⟨rfl, rfl⟩)
          | (go_at_call 29; (with_reducible refine (f6).mono ?_); rintro e w5 ⟨rfl, rfl⟩)
          | (go_at_call 30; (with_reducible refine (f7).mono ?_); rintro e w5 ⟨rfl, rfl⟩)
          | fail "no arm")
        exact ⟨⟨jn + 1, by omega, by go_num, L4.out⟩, by simp [intOf]; omega⟩
      · have hb9 := hLp.bel
        clear hLp
        go_wp2
        go_ret
        exact ⟨rfl, hb9⟩
theorem walk (w : World) (s : Int) (ws : (Lit.int .i64 s).wf = true) (room : Int) (wr : (Lit.int .i64 room).wf = true) (v2 : Value) (h2 : ∃ k n B m c bs, v2 = .agg #[.int .i64 k, .int .i64 n, .slice B m c] ∧ RB w B m bs ∧ m ≤ c ∧ c ≤ maxLen) :
    Calls Try.prog 5 #[.int .i64 s, .int .i64 room, v2] w fun e w' => e = .returned (.bool true) ∧ Below w.heap.size w w' := by
  obtain ⟨k, n, B, m, c, bs, rfl, _, hmc, hcm⟩ := h2
  by_cases hm : m ≤ 200
  · by_cases h : s < 1 ∨ 4096 < s ∨ room < 0 ∨ s < room
    · exact walk_none s room k n B m c w hm h
    · exact walk_may s room k n B m c w hm (by omega) (by omega) (by omega) (by omega)
  · exact walk_big s room k n B m c w (by omega) (by omega)

--FRAME tompionlaw06 DiskNone diskNone walk i64 i64 raw:tompion/tompionlaw06.Do:args_do6:.agg‹_›#[.int‹_›.i64‹_›0,‹_›.int‹_›.i64‹_›0,‹_›.slice‹_›none‹_›0‹_›0]
theorem own : ownKnob Try.prog.godebug = none := by kernel_rfl
theorem laidOut : laidOutB Try.prog = true := by kernel_rfl

set_option maxRecDepth 100000 in
theorem lifted (os : Os) (started : os.Started) (H : Type) (enc : TypeId × Value → H) :
    ReturnsInHanded {} Try.checked os 5 .any (Rows.diskNoneSpec.pre6 enc Try.prog Try.f5 Rows.diskNoneRow.domain false) (Rows.diskNoneSpec.post enc Try.prog Try.f5 false true false false) := by
  refine returnsInHanded_of_change (C := Try.checked) own started (by kernel_rfl) Try.func5
    (ChangeSpec.witness6 (enc := enc) (C := Try.checked) false ⟨#[], #[.int .i64 0, .int .i64 0, .agg #[.int .i64 0, .int .i64 0, .slice none 0 0]], []⟩ 8 (by kernel_rfl) (by kernel_rfl) (by kernel_rfl) (by kernel_rfl)) ?_
  intro W base args ds gs before hval0 hW hcnd _
  have hval : ∀ (j : Nat) t v, Try.f5.params[j]? = some t → args[j]? = some v → Value.okWide Try.prog W .any base t v := hval0
  have hW' := hW
  obtain ⟨p, q, hA0, hV, rfl, hfz, hnd⟩ := hW
  have hA : DataW.TrodAll enc Try.prog W 0 (fun _ => true) true Try.f5.params.toList args.toList ds p := hA0
  rw [Try.params5] at hA hval
  obtain ⟨v0, vs0, d0, ds0, p0, q0, hargs, rfl, rfl, h0, rr0⟩ := trodAll_cons hA
  obtain ⟨v1, vs1, d1, ds1, p1, q1, rfl, rfl, rfl, h1, rr1⟩ := trodAll_cons rr0
  obtain ⟨v2, vs2, d2, ds2, p2, q2, rfl, rfl, rfl, h2, rr2⟩ := trodAll_cons rr1
  obtain ⟨rfl, rfl, rfl⟩ := trodAll_nil rr2
  obtain rfl : args = #[v0, v1, v2] := by cases args; simp_all
  obtain ⟨rfl, rfl⟩ := trodVars_none hV
  have k0 := h0
  have lt0 : ∀ x ∈ p0, x.block < W.heap.size := by obtain ⟨m, hm⟩ := k0; exact DataW.trod_lt m _ _ _ hm
  obtain ⟨a0, rfl, wf0⟩ := args_int Try.underlying3 (hval 0 3 v0 rfl rfl) h0
  have k1 := h1
  have lt1 : ∀ x ∈ p1, x.block < W.heap.size := by obtain ⟨m, hm⟩ := k1; exact DataW.trod_lt m _ _ _ hm
  obtain ⟨a1, rfl, wf1⟩ := args_int Try.underlying3 (hval 1 3 v1 rfl rfl) h1
  have k2 := h2
  have lt2 : ∀ x ∈ p2, x.block < W.heap.size := by obtain ⟨m, hm⟩ := k2; exact DataW.trod_lt m _ _ _ hm
  have x2 := args_do6 (hval 2 31 v2 rfl rfl) h2
  clear hA0 hval0
  refine (walk W a0 wf0 a1 wf1 v2 x2).mono fun e W' ⟨he, bel⟩ => ?_
  subst he
  exact ⟨_, rfl, _, _, _, [], _, [], hW', trodAll_mk1 (shut_bool Try.underlying4 _), (trodAll_cons_mk (Below.trod laidOut (by kernel_rfl) (of_decide_eq_true (by kernel_rfl)) k0 bel lt0) (trodAll_cons_mk (Below.trod laidOut (by kernel_rfl) (of_decide_eq_true (by kernel_rfl)) k1 bel lt1) (trodAll_cons_mk (Below.trod laidOut (by kernel_rfl) (of_decide_eq_true (by kernel_rfl)) k2 bel lt2) trodAll_mk0))), rfl, bel.frame _, fun h => by cases h⟩

theorem over : Rows.diskNoneRow.holds Try.pinned (OpenSpec.ofChange Rows.diskNoneSpec) :=
  OpenClaim.holds_of_wide 5 Try.f5 rfl rfl rfl rfl rfl rfl rfl ⟨rfl, rfl, rfl, rfl, rfl⟩ rfl rfl rfl rfl rfl (by kernel_rfl) Try.func5 (by kernel_rfl)
    (of_decide_eq_true (by kernel_rfl)) (by unfold Func.isWrapper; first | (rw [if_pos (by decide +kernel)]; kernel_rfl) | (rw [if_neg (by decide +kernel)]; exact ⟨rfl, rfl⟩))
    (fun os started H enc _ => lifted os started H enc)

theorem proved : Rows.DiskNoneSaid := over
--ENDFRAME
end Go.Proofs.Ytninidpbchcliaa.diskNone
