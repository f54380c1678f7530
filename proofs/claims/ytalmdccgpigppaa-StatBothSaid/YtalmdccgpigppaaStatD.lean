/- Contracts of package stat: Of; events and replies in memory. -/
import Derived.Test.YtalmdccgpigppaaStatC
import Derived.Test.YtalmdccgpigppaaFrame
namespace Go.Proofs.Ytalmdccgpigppaa
open Go.RowKit Go.WideShapes Go.ChangeShapes Go.Deep Go.Joins
set_option linter.unusedVariables false
set_option linter.unusedSimpArgs false
/-- Events, one behind the other: their kinds. -/
def EvW (w : World) (A : Option Addr) (n : Nat) (K : Nat → Int) : Prop := ∀ i, i < n → ∃ b o en A1 n1 c1 A2 n2 c2, A = some ⟨b, o, none⟩ ∧ b < w.heap.size ∧ w.cell? ⟨b, o + i * 4, none⟩ = some (.int .i64 (K i)) ∧ w.cell? ⟨b, o + i * 4 + 1, none⟩ = some (.int .i64 en) ∧ w.cell? ⟨b, o + i * 4 + 2, none⟩ = some (.slice A1 n1 c1) ∧ w.cell? ⟨b, o + i * 4 + 3, none⟩ = some (.slice A2 n2 c2)
/-- Replies, one behind the other. -/
def RpW (w : World) (A : Option Addr) (n : Nat) (E N : Nat → Int) : Prop := ∀ i, i < n → ∃ b o, A = some ⟨b, o, none⟩ ∧ b < w.heap.size ∧ w.cell? ⟨b, o + i * 2, none⟩ = some (.int .i64 (E i)) ∧ w.cell? ⟨b, o + i * 2 + 1, none⟩ = some (.int .i64 (N i)) ∧ -9223372036854775808 ≤ N i ∧ N i ≤ 9223372036854775807
section
variable {w w' : World} {A : Option Addr} {n B k : Nat} {K E N : Nat → Int}
theorem EvW.below (h : EvW w A n K) (hb : Below B w w') (hB : w.heap.size ≤ B) : EvW w' A n K := fun i hi => by
  obtain ⟨b, o, en, A1, n1, c1, A2, n2, c2, e, q, x0, x1, x2, x3⟩ := h i hi
  have q' : b < B := by omega
  exact ⟨b, o, en, A1, n1, c1, A2, n2, c2, e, by have := hb.size; omega, (hb.cell (p := ⟨b, _, none⟩) q').trans x0, (hb.cell (p := ⟨b, _, none⟩) q').trans x1, (hb.cell (p := ⟨b, _, none⟩) q').trans x2, (hb.cell (p := ⟨b, _, none⟩) q').trans x3⟩
theorem RpW.below (h : RpW w A n E N) (hb : Below B w w') (hB : w.heap.size ≤ B) : RpW w' A n E N := fun i hi => by
  obtain ⟨b, o, e, q, x0, x1, x2⟩ := h i hi
  have q' : b < B := by omega
  exact ⟨b, o, e, by have := hb.size; omega, (hb.cell (p := ⟨b, _, none⟩) q').trans x0, (hb.cell (p := ⟨b, _, none⟩) q').trans x1, x2⟩
theorem add_off (b o q : Nat) : (⟨b, o, none⟩ : Addr).add q = ⟨b, o + q, none⟩ := by unfold Addr.add; split <;> simp_all
theorem EvW.cut (h : EvW w A n K) (m : Nat) (hm : k + m ≤ n) : EvW w (A.map (·.add (k * 4))) m (fun i => K (k + i)) := fun i hi => by
  obtain ⟨b, o, en, A1, n1, c1, A2, n2, c2, e, q, x0, x1, x2, x3⟩ := h (k + i) (by omega)
  refine ⟨b, o + k * 4, en, A1, n1, c1, A2, n2, c2, by rw [e]; simp [add_off], q, ?_, ?_, ?_, ?_⟩
  · rw [show o + k * 4 + i * 4 = o + (k + i) * 4 by omega]; exact x0
  · rw [show o + k * 4 + i * 4 = o + (k + i) * 4 by omega]; exact x1
  · rw [show o + k * 4 + i * 4 = o + (k + i) * 4 by omega]; exact x2
  · rw [show o + k * 4 + i * 4 = o + (k + i) * 4 by omega]; exact x3
theorem RpW.cut (h : RpW w A n E N) (m : Nat) (hm : k + m ≤ n) : RpW w (A.map (·.add (k * 2))) m (fun i => E (k + i)) (fun i => N (k + i)) := fun i hi => by
  obtain ⟨b, o, e, q, x0, x1, x2⟩ := h (k + i) (by omega)
  refine ⟨b, o + k * 2, by rw [e]; simp [add_off], q, ?_, ?_, x2⟩
  · rw [show o + k * 2 + i * 2 = o + (k + i) * 2 by omega]; exact x0
  · rw [show o + k * 2 + i * 2 = o + (k + i) * 2 by omega]; exact x1
theorem EvW.front (h : EvW w A n K) (hm : k ≤ n) : EvW w A k K := fun i hi => h i (by omega)
theorem RpW.front (h : RpW w A n E N) (hm : k ≤ n) : RpW w A k E N := fun i hi => h i (by omega)
end
section
variable {H : Type} {enc : TypeId × Value → H} {w : World} {base b0 : Nat} {held : Bool} {r : Reach} {v : Value} {d : DataW H} {ps : List MemPlace}
set_option maxRecDepth 100000 in
theorem args_events (hval : Value.okWide Try.prog w r b0 44 v) (hd : DataW.Trod enc Try.prog w base (fun _ => true) held 44 v d ps) :
    ∃ A n c K, v = .slice A n c ∧ EvW w A n K ∧ n ≤ c ∧ c ≤ maxLen := by
  obtain ⟨A, n, c, rfl, hn, hc, hat⟩ := open_structs (k := 4) Try.underlying44 Try.underlying133 (by kernel_rfl) (by kernel_rfl) rfl (by omega) hval hd
  have hx : ∀ i, i < n → ∃ x : Int, ∃ b o en A1 n1 c1 A2 n2 c2, A = some ⟨b, o, none⟩ ∧ b < w.heap.size ∧ w.cell? ⟨b, o + i * 4, none⟩ = some (.int .i64 x) ∧ w.cell? ⟨b, o + i * 4 + 1, none⟩ = some (.int .i64 en) ∧ w.cell? ⟨b, o + i * 4 + 2, none⟩ = some (.slice A1 n1 c1) ∧ w.cell? ⟨b, o + i * 4 + 3, none⟩ = some (.slice A2 n2 c2) := by
    intro i hi
    obtain ⟨b, o, vs, hA, hb, hl, hcell, fuel, hf⟩ := hat i hi
    obtain ⟨u0, y0, e0, t0⟩ := hf 0 _ rfl
    obtain ⟨u1, y1, e1, t1⟩ := hf 1 _ rfl
    obtain ⟨u2, y2, e2, t2⟩ := hf 2 _ rfl
    obtain ⟨u3, y3, e3, t3⟩ := hf 3 _ rfl
    obtain ⟨z0, hz0, _, hw0⟩ := DataW.trod_int Try.underlying3 t0
    obtain ⟨z1, hz1, _, hw1⟩ := DataW.trod_int Try.underlying3 t1
    have hz0 : u0 = .int .i64 z0 := by simpa using hz0
    have hz1 : u1 = .int .i64 z1 := by simpa using hz1
    subst hz0 hz1
    obtain ⟨B2, m2, c2, l2, rfl, _⟩ := trod_ints Try.underlying54 Try.underlying3 (by kernel_rfl) t2
    obtain ⟨B3, m3, c3, l3, rfl, _⟩ := trod_bytes Try.underlying26 Try.underlying5 (by kernel_rfl) t3
    exact ⟨z0, b, o, z1, B2, m2, c2, B3, m3, c3, hA, hb, (hcell 0 (by omega)).trans e0, (hcell 1 (by omega)).trans e1, (hcell 2 (by omega)).trans e2, (hcell 3 (by omega)).trans e3⟩
  obtain ⟨l, hl, hp⟩ := list_of hx
  refine ⟨A, n, c, fun i => l.getD i 0, rfl, fun i hi => ?_, hn, hc⟩
  have hil : i < l.length := by omega
  have := hp i _ (List.getElem?_eq_getElem hil)
  simp only []
  rw [show l.getD i 0 = l[i] by rw [List.getD_eq_getElem?_getD, List.getElem?_eq_getElem hil]; rfl]
  exact this
set_option maxRecDepth 100000 in
theorem args_replies (hval : Value.okWide Try.prog w r b0 45 v) (hd : DataW.Trod enc Try.prog w base (fun _ => true) held 45 v d ps) :
    ∃ A n c E N, v = .slice A n c ∧ RpW w A n E N ∧ n ≤ c ∧ c ≤ maxLen ∧ ∀ i, N i ≤ 9223372036854775807 := by
  obtain ⟨A, n, c, rfl, hn, hc, hat⟩ := open_structs (k := 2) Try.underlying45 Try.underlying47 (by kernel_rfl) (by kernel_rfl) rfl (by omega) hval hd
  have hx : ∀ i, i < n → ∃ x : Int × Int, ∃ b o, A = some ⟨b, o, none⟩ ∧ b < w.heap.size ∧ w.cell? ⟨b, o + i * 2, none⟩ = some (.int .i64 x.1) ∧ w.cell? ⟨b, o + i * 2 + 1, none⟩ = some (.int .i64 x.2) ∧ -9223372036854775808 ≤ x.2 ∧ x.2 ≤ 9223372036854775807 := by
    intro i hi
    obtain ⟨b, o, vs, hA, hb, hl, hcell, fuel, hf⟩ := hat i hi
    obtain ⟨u0, y0, e0, t0⟩ := hf 0 _ rfl
    obtain ⟨u1, y1, e1, t1⟩ := hf 1 _ rfl
    obtain ⟨z0, hz0, _, hw0⟩ := DataW.trod_int Try.underlying32 t0
    obtain ⟨z1, hz1, _, hw1⟩ := DataW.trod_int Try.underlying3 t1
    have hz0 : u0 = .int .i64 z0 := by simpa using hz0
    have hz1 : u1 = .int .i64 z1 := by simpa using hz1
    subst hz0 hz1
    exact ⟨(z0, z1), b, o, hA, hb, (hcell 0 (by omega)).trans e0, (hcell 1 (by omega)).trans e1, bounds_i64 hw1⟩
  obtain ⟨l, hl, hp⟩ := list_of hx
  have hg : ∀ i (h : i < l.length), l.getD i (0, 0) = l[i] := fun i h => by rw [List.getD_eq_getElem?_getD, List.getElem?_eq_getElem h]; rfl
  refine ⟨A, n, c, fun i => (l.getD i (0, 0)).1, fun i => (l.getD i (0, 0)).2, rfl, fun i hi => ?_, hn, hc, fun i => ?_⟩
  · have hil : i < l.length := by omega
    have := hp i _ (List.getElem?_eq_getElem hil)
    simp only []
    rw [hg i hil]
    exact this
  · rcases Nat.lt_or_ge i l.length with q | q
    · obtain ⟨_, _, _, _, _, _, _, e⟩ := hp i _ (List.getElem?_eq_getElem q)
      simp only
      rw [hg i q]
      exact e
    · simp only
      rw [List.getD_eq_getElem?_getD, List.getElem?_eq_none q]
      show (0 : Int) ≤ _
      omega
end
set_option maxRecDepth 100000 in
set_option maxHeartbeats 20000000 in
theorem of_any (A B : Option Addr) (n c d : Nat) (Ka Ea Na : Nat → Int) (w : World) (hA : EvW w A n Ka) (hB : RpW w B n Ea Na) (hn : n ≤ maxLen) :
    Calls Try.prog 18 #[.slice A n c, .slice B n d] w fun e w' => e = .returned (.tuple #[.agg #[.int .i64 ((ofN Ka Ea Na n) 0), .int .i64 ((ofN Ka Ea Na n) 1), .int .i64 ((ofN Ka Ea Na n) 2), .int .i64 ((ofN Ka Ea Na n) 3), .int .i64 ((ofN Ka Ea Na n) 4), .int .i64 ((ofN Ka Ea Na n) 5), .int .i64 ((ofN Ka Ea Na n) 6), .int .i64 ((ofN Ka Ea Na n) 7), .int .i64 ((ofN Ka Ea Na n) 8), .int .i64 ((ofN Ka Ea Na n) 9)], .int .i64 0]) ∧ Below w.heap.size w w' := by
  have HA := Lib.hid hA
  have HB := Lib.hid hB
  unfold maxLen at hn
  clear hA hB
  go_enter Try.func18, Try.ntmps18
  go_wp2_with fail
  go_loopw [7, 8, 17] (fun _ _ i wr => ∃ k : Nat, k ≤ n ∧ i = .int .i64 (k : Nat) ∧ Blk wr (w.heap.size + 1) 49 [.int .i64 ((ofN Ka Ea Na k) 0), .int .i64 ((ofN Ka Ea Na k) 1), .int .i64 ((ofN Ka Ea Na k) 2), .int .i64 ((ofN Ka Ea Na k) 3), .int .i64 ((ofN Ka Ea Na k) 4), .int .i64 ((ofN Ka Ea Na k) 5), .int .i64 ((ofN Ka Ea Na k) 6), .int .i64 ((ofN Ka Ea Na k) 7), .int .i64 ((ofN Ka Ea Na k) 8), .int .i64 ((ofN Ka Ea Na k) 9)] ∧ Blk wr w.heap.size 49 [.int .i64 (noT 0), .int .i64 (noT 1), .int .i64 (noT 2), .int .i64 (noT 3), .int .i64 (noT 4), .int .i64 (noT 5), .int .i64 (noT 6), .int .i64 (noT 7), .int .i64 (noT 8), .int .i64 (noT 9)] ∧ Below w.heap.size w wr) (fun _ _ i _ => n - (intOf i).toNat)
  case atStart => exact ⟨0, by omega, rfl, Blk.top _ (by simp) rfl, Blk.alloc (Blk.top _ rfl rfl) _, (by (repeat' (first | (with_reducible exact Below.refl _ _) | (with_reducible assumption) | (with_reducible refine Below.drew ?_) | (with_reducible refine below_drewN ?_ _) | (with_reducible refine Below.alloc ?_ ?_ _) | (with_reducible refine Below.setCell ?_ ?_ _) | omega | (simp; done) | (simp; omega))))⟩
  case round =>
    obtain ⟨k, hk, rfl, ht, hr, hb⟩ := hrel
    have HT := Lib.hid ht
    have HR := Lib.hid hr
    have HBB := Lib.hid hb
    have hs := hb.size
    clear ht hr hb
    by_cases hlt : k < n
    · have hkI : (k : Int) < n := by omega
      obtain ⟨b, o, en, A1, n1, c1, A2, n2, c2, hA, hbl, x0, x1, x2, x3⟩ := (HA.out.below HBB.out (Nat.le_refl _)) k hlt
      obtain ⟨b', o', hB, hbl', y0, y1, y2, y3⟩ := HB.out k hlt
      subst hA hB
      have hadd := fun W => add45_any (ofN Ka Ea Na k) (Ka k) en A1 A2 n1 c1 n2 c2 (Ea k) (Na k) W ⟨y2, y3⟩
      have hsucc : addT (ofN Ka Ea Na k) (Ka k) (Ea k) (Na k) = ofN Ka Ea Na (k + 1) := rfl
      rw [hsucc] at hadd
      clear hsucc
      obtain ⟨R1, hR1⟩ : ∃ R1, R1 = ofN Ka Ea Na (k + 1) := ⟨_, rfl⟩
      rw [← hR1] at hadd
      have HR1 := Lib.hid hR1
      clear hR1
      generalize ofN Ka Ea Na k = R0 at *
      go_upto_region 7 with fail
      have hx : Blk (wr.alloc (.cells #[.int .i64 (Ka k), .int .i64 en, .slice A1 n1 c1, .slice A2 n2 c2] 133)) wr.heap.size 133 [.int .i64 (Ka k), .int .i64 en, .slice A1 n1 c1, .slice A2 n2 c2] := Blk.top _ rfl rfl
      have ht := HT.out.alloc (.cells #[.int .i64 (Ka k), .int .i64 en, .slice A1 n1 c1, .slice A2 n2 c2] 133)
      have hr := HR.out.alloc (.cells #[.int .i64 (Ka k), .int .i64 en, .slice A1 n1 c1, .slice A2 n2 c2] 133)
      have hb : Below w.heap.size w (wr.alloc (.cells #[.int .i64 (Ka k), .int .i64 en, .slice A1 n1 c1, .slice A2 n2 c2] 133)) := HBB.out.alloc hs _
      have hsz : wr.heap.size < (wr.alloc (.cells #[.int .i64 (Ka k), .int .i64 en, .slice A1 n1 c1, .slice A2 n2 c2] 133)).drew.heap.size := by simp
      refine wp_region_held_drew (S := fun w' => Blk w' wr.heap.size 133 [.int .i64 (Ka k), .int .i64 en, .slice A1 n1 c1, .slice A2 n2 c2] ∧ Below w.heap.size w w') (by kernel_rfl) ⟨hx.drew, hb.drew⟩ (fun hHeld => ?_)
      replace hx := hx.drew
      replace ht := ht.drew
      replace hr := hr.drew
      replace hb := hb.drew
      generalize World.drew (wr.alloc (.cells #[.int .i64 (Ka k), .int .i64 en, .slice A1 n1 c1, .slice A2 n2 c2] 133)) = W at *
      have Y0 := Lib.hid (fun (V : World) (h : Below w.heap.size w V) => (h.cell (p := ⟨b', o' + k * 2, none⟩) hbl').trans y0)
      have Y1 := Lib.hid (fun (V : World) (h : Below w.heap.size w V) => (h.cell (p := ⟨b', o' + k * 2 + 1, none⟩) hbl').trans y1)
      clear y0 y1 x0 x1 x2 x3
      refine wpAnyH_take (i := 1) (v := ?_) rfl (by decide +kernel) (by decide +kernel) (by decide +kernel) (fun _ _ _ h => h) (Or.inl ⟨by rfl, ?_⟩) (by assumption) ?_
      rotate_left 1
      · (intro w hSw; (try dsimp only at hSw); obtain ⟨hX, hY⟩ := hSw; have c0 := hX.cell 0; have c1 := hX.cell 1; have c2 := hX.cell 2; have c3 := hX.cell 3; go_simp; rfl)
      try simp only [List.getElem_toArray, List.getElem_cons_zero, List.getElem_cons_succ, Act.put, List.setIfInBounds_toArray, List.set_cons_zero, List.set_cons_succ]
      refine wpAnyH_take (i := 2) (v := ?_) rfl (by decide +kernel) (by decide +kernel) (by decide +kernel) (fun _ _ _ h => h) (Or.inl ⟨by rfl, ?_⟩) (by assumption) ?_
      rotate_left 1
      · (intro w hSw; (try dsimp only at hSw); go_simp; try (with_reducible rfl))
      try simp only [List.getElem_toArray, List.getElem_cons_zero, List.getElem_cons_succ, Act.put, List.setIfInBounds_toArray, List.set_cons_zero, List.set_cons_succ]
      refine wpAnyH_take (i := 3) (v := ?_) rfl (by decide +kernel) (by decide +kernel) (by decide +kernel) (fun _ _ _ h => h) (Or.inl ⟨by rfl, ?_⟩) (by assumption) ?_
      rotate_left 1
      · (intro w hSw; (try dsimp only at hSw); go_simp; try (with_reducible rfl))
      try simp only [List.getElem_toArray, List.getElem_cons_zero, List.getElem_cons_succ, Act.put, List.setIfInBounds_toArray, List.set_cons_zero, List.set_cons_succ]
      refine wpAnyH_take (i := 4) (v := ?_) rfl (by decide +kernel) (by decide +kernel) (by decide +kernel) (fun _ _ _ h => h) (Or.inl ⟨by rfl, ?_⟩) (by assumption) ?_
      rotate_left 1
      · (intro w hSw; (try dsimp only at hSw); go_simp; try (with_reducible rfl))
      try simp only [List.getElem_toArray, List.getElem_cons_zero, List.getElem_cons_succ, Act.put, List.setIfInBounds_toArray, List.set_cons_zero, List.set_cons_succ]
      refine wpAnyH_take (i := 5) (v := ?_) rfl (by decide +kernel) (by decide +kernel) (by decide +kernel) (fun _ _ _ h => h) (Or.inl ⟨by rfl, ?_⟩) (by assumption) ?_
      rotate_left 1
      · (intro w hSw; (try dsimp only at hSw); obtain ⟨hX, hY⟩ := hSw; have q0 := Y0.out _ hY; have q1 := Y1.out _ hY; go_simp; rfl)
      try simp only [List.getElem_toArray, List.getElem_cons_zero, List.getElem_cons_succ, Act.put, List.setIfInBounds_toArray, List.set_cons_zero, List.set_cons_succ]
      refine wpAnyH_ready (rs := [0]) (by decide +kernel) (by simp) ?_
      refine AllReadyH.cons rfl (fun K hK => ?_) AllReadyH.nil
      obtain ⟨x0, x1, x2, x3, x4, x5, x6, x7, x8, x9⟩ := blk10 ht
      go_simp
      refine hK.out _ _ (⟨hx, hb⟩) (fun hHeld => ?_)
      clear hK K
      try simp only [List.getElem_toArray, List.getElem_cons_zero, List.getElem_cons_succ, Act.put, List.setIfInBounds_toArray, List.set_cons_zero, List.set_cons_succ]
      clear x0 x1 x2 x3 x4 x5 x6 x7 x8 x9
      refine wpAnyH_ready (rs := [6]) (by decide +kernel) (by simp) ?_
      refine AllReadyH.cons rfl (fun K hK => ?_) AllReadyH.nil
      go_simp
      (go_at_call 57; (with_reducible refine (hadd _).mono ?_); rintro e w5 ⟨rfl, hb5⟩)
      replace hx := hx.below hb5 hx.lt
      replace ht := ht.below hb5 ht.lt
      replace hr := hr.below hb5 hr.lt
      replace hb := hb.trans (hb5.mono (by omega))
      have hs5 := hb5.size
      refine hK.out _ _ (⟨hx, hb⟩) (fun hHeld => ?_)
      clear hK K
      try simp only [List.getElem_toArray, List.getElem_cons_zero, List.getElem_cons_succ, Act.put, List.setIfInBounds_toArray, List.set_cons_zero, List.set_cons_succ]
      refine wpAnyH_ready (rs := [7]) (by decide +kernel) (by simp) ?_
      refine AllReadyH.cons rfl (fun K hK => ?_) AllReadyH.nil
      rw [if_pos (by rfl)]
      refine wp_store_eq 49 (.tmp 6) (.tmp 28) rfl (w.heap.size + 1) 0 #[.int .i64 (R1 0), .int .i64 (R1 1), .int .i64 (R1 2), .int .i64 (R1 3), .int .i64 (R1 4), .int .i64 (R1 5), .int .i64 (R1 6), .int .i64 (R1 7), .int .i64 (R1 8), .int .i64 (R1 9)] rfl rfl (ht.there 0 10 (by simp)) (by kernel_rfl) (all_oneCell_toArray (tl_one R1)) ?_
      intro S1 hS1
      replace ht : Blk S1 (w.heap.size + 1) 49 [.int .i64 (R1 0), .int .i64 (R1 1), .int .i64 (R1 2), .int .i64 (R1 3), .int .i64 (R1 4), .int .i64 (R1 5), .int .i64 (R1 6), .int .i64 (R1 7), .int .i64 (R1 8), .int .i64 (R1 9)] := by rw [hS1]; exact ht.setAll rfl
      replace hx : Blk S1 wr.heap.size 133 [.int .i64 (Ka k), .int .i64 en, .slice A1 n1 c1, .slice A2 n2 c2] := by rw [hS1]; exact Blk.setCellsFar (by have := HT.out.lt; omega) _ _ _ hx
      replace hr : Blk S1 w.heap.size 49 [.int .i64 (noT 0), .int .i64 (noT 1), .int .i64 (noT 2), .int .i64 (noT 3), .int .i64 (noT 4), .int .i64 (noT 5), .int .i64 (noT 6), .int .i64 (noT 7), .int .i64 (noT 8), .int .i64 (noT 9)] := by rw [hS1]; exact Blk.setCellsFar (by omega) _ _ _ hr
      replace hb : Below w.heap.size w S1 := by rw [hS1]; exact below_setCells hb (by omega) _ _
      clear hS1
      refine hK.out _ _ (⟨hx, hb⟩) (fun hHeld => ?_)
      clear hK K
      try simp only [List.getElem_toArray, List.getElem_cons_zero, List.getElem_cons_succ, Act.put, List.setIfInBounds_toArray, List.set_cons_zero, List.set_cons_succ]
      refine wpAnyH_done (by decide +kernel) ?_ _
      clear hHeld
      have HT1 : Blk S1 (w.heap.size + 1) 49 [.int .i64 ((ofN Ka Ea Na (k + 1)) 0), .int .i64 ((ofN Ka Ea Na (k + 1)) 1), .int .i64 ((ofN Ka Ea Na (k + 1)) 2), .int .i64 ((ofN Ka Ea Na (k + 1)) 3), .int .i64 ((ofN Ka Ea Na (k + 1)) 4), .int .i64 ((ofN Ka Ea Na (k + 1)) 5), .int .i64 ((ofN Ka Ea Na (k + 1)) 6), .int .i64 ((ofN Ka Ea Na (k + 1)) 7), .int .i64 ((ofN Ka Ea Na (k + 1)) 8), .int .i64 ((ofN Ka Ea Na (k + 1)) 9)] := by rw [← HR1.out]; exact ht
      go_wp2
      go_roundw
      case rel => first
        | exact ⟨k + 1, by omega, by go_num, HT1, hr, hb⟩
        | ((repeat apply Exists.intro); exact ⟨⟨k + 1, by omega, by go_num, HT1, hr, hb⟩, rfl⟩)
      case measure => simp [intOf]; omega
    · have hkn : k = n := by omega
      subst hkn
      have ht := HT.out
      have hr := HR.out
      have hb := HBB.out
      obtain ⟨R0, hR⟩ : ∃ R0, R0 = ofN Ka Ea Na k := ⟨_, rfl⟩
      rw [← hR] at ht
      have HRR := Lib.hid hR
      clear hR HT HR HBB
      obtain ⟨x0, x1, x2, x3, x4, x5, x6, x7, x8, x9⟩ := blk10 ht
      obtain ⟨q0, q1, q2, q3, q4, q5, q6, q7, q8, q9⟩ := blk10 hr
      have fr := hr.frozen
      have lr := hr.lt
      go_wp2
      refine bodyPost_ret (v := .tuple #[.agg #[.int .i64 (R0 0), .int .i64 (R0 1), .int .i64 (R0 2), .int .i64 (R0 3), .int .i64 (R0 4), .int .i64 (R0 5), .int .i64 (R0 6), .int .i64 (R0 7), .int .i64 (R0 8), .int .i64 (R0 9)], .int .i64 0]) (by simp [results, Try.results18, go_sem, q0, q1, q2, q3, q4, q5, q6, q7, q8, q9]) rfl ?_
      exact ⟨by rw [HRR.out], (by (repeat' (first | (with_reducible exact Below.refl _ _) | (with_reducible assumption) | (with_reducible refine Below.drew ?_) | (with_reducible refine below_drewN ?_ _) | (with_reducible refine Below.alloc ?_ ?_ _) | (with_reducible refine Below.setCell ?_ ?_ _) | omega | (simp; done) | (simp; omega))))⟩
end Go.Proofs.Ytalmdccgpigppaa
