/- Contracts of package lot: Events. -/
import Derived.Test.YtkhihgilodhjfaaLotE
import Derived.Test.YtkhihgilodhjfaaStr
namespace Go.Proofs.Ytkhihgilodhjfaa
open Go.RowKit
set_option linter.unusedVariables false
set_option linter.unusedSimpArgs false

theorem LotAt.drew {w : World} {g : Nat} {s : UInt64} (h : LotAt w g s) : LotAt w.drew g s := h
theorem LotAt.drewN {w : World} {g : Nat} {s : UInt64} (h : LotAt w g s) (k : Nat) : LotAt (w.drewN k) g s := h
theorem RLotAt.drew {w : World} {g : Nat} {s : UInt64} (h : RLotAt w g s) : RLotAt w.drew g s := h
theorem RLotAt.drewN {w : World} {g : Nat} {s : UInt64} (h : RLotAt w g s) (k : Nat) : RLotAt (w.drewN k) g s := h

/-- An event as it lies in memory. -/
structure EvR where
  k : Int
  n : Int
  B1 : Option Addr
  n1 : Nat
  c1 : Nat
  B2 : Option Addr
  n2 : Nat
  c2 : Nat
def evRc (x : EvR) : List Value := [.int .i64 x.k, .int .i64 x.n, .slice x.B1 x.n1 x.c1, .slice x.B2 x.n2 x.c2]
theorem evRc_len (x : EvR) : (evRc x).length = 4 := rfl
theorem evRc_one (x : EvR) : ∀ u ∈ evRc x, u.oneCell' = true := by
  intro u hu
  simp only [evRc, List.mem_cons, List.not_mem_nil, or_false] at hu
  rcases hu with rfl | rfl | rfl | rfl <;> rfl
def evRel (w : World) (base : Nat) (x : EvR) (y : EvD) : Prop := x.k = y.kind ∧ x.n = y.num ∧ Ow iv w base 3 x.B1 x.n1 x.c1 y.row ∧ OB w base 5 x.B2 x.n2 x.c2 y.ch
/-- An own slice of events. -/
def EvsAt (w : World) (base : Nat) (A : Option Addr) (n c : Nat) (l : List EvD) : Prop := ∃ rs : List EvR, OwS 4 evRc w base 51 A n c rs ∧ l.length = n ∧ ∀ (k : Nat) (x : EvR) (y : EvD), rs[k]? = some x → l[k]? = some y → evRel w base x y
theorem EvsAt.rd {w : World} {base : Nat} {A : Option Addr} {n c : Nat} {l : List EvD} (h : EvsAt w base A n c l) : EvsRd w A n l := by
  obtain ⟨rs, ho, hl, hr⟩ := h
  refine ⟨hl, fun k y hy => ?_⟩
  have hk : k < n := by rw [← hl]; exact (List.getElem?_eq_some_iff.1 hy).1
  obtain ⟨b, o, x, hA, hb, hx, hc⟩ := ho.rd.at_ evRc_len (by omega) hk
  obtain ⟨e1, e2, o1, o2⟩ := hr k x y hx hy
  refine ⟨b, o, x.B1, x.n1, x.c1, x.B2, x.n2, x.c2, hA, hb, ?_, ?_, ?_, ?_, o1.rd.ri, o2.rd.rb, ?_, ?_⟩
  · rw [← e1]; exact hc 0 (by omega)
  · rw [← e2]; exact hc 1 (by omega)
  · exact hc 2 (by omega)
  · exact hc 3 (by omega)
  · have := o1.cap; omega
  · have := o2.cap; omega
theorem evRel.keep {F : Nat → Prop} {w w' : World} {base : Nat} {x : EvR} {y : EvD} (h : evRel w base x y) (k : Keep F w w') (hF : ∀ b t cs, Blk w b t cs → F b → t ≠ 3 ∧ t ≠ 5) : evRel w' base x y := by
  obtain ⟨h1, h2, o1, o2⟩ := h
  have hb : ∀ {α : Type} {enc : α → Value} {e : TypeId} {A : Option Addr} {n c : Nat} {l : List α}, Ow enc w base e A n c l → (e = 3 ∨ e = 5) → ∀ b, A.map (·.block) = some b → ¬ F b := by
    intro α enc e A n c l ho he b hA hFb
    rcases ho.2.2 with ⟨hv, _⟩ | ⟨g, cap, cur, hv, _, hg, _⟩
    · injection hv with hv; subst hv; cases hA
    · injection hv with hv
      subst hv
      simp only [Option.map_some, Option.some.injEq] at hA
      subst hA
      have := hF g e cur.toList (by unfold Blk; rw [hg]) hFb
      rcases he with rfl | rfl
      · exact this.1 rfl
      · exact this.2 rfl
  exact ⟨h1, h2, o1.keep k (hb o1 (.inl rfl)), o2.keep k (hb o2 (.inr rfl))⟩

theorem OwS.keep {α : Type} {size : Nat} {enc : α → List Value} {F : Nat → Prop} {w w' : World} {base n c : Nat} {e : TypeId} {A : Option Addr} {l : List α} (h : OwS size enc w base e A n c l) (k : Keep F w w') (hF : ∀ b, A.map (·.block) = some b → ¬ F b) : OwS size enc w' base e A n c l :=
  ⟨h.1, own_keep h.2 k (fun x hx e => hF x (by cases A with | none => simp [Value.ownBlock] at hx | some a => simpa [Value.ownBlock] using hx) e)⟩
theorem Blk.ty {w : World} {g : Nat} {t t' : TypeId} {cs cs' : List Value} (h : Blk w g t cs) (h' : Blk w g t' cs') : t = t' := by
  unfold Blk at h h'
  rw [h] at h'
  injection h' with h'
  injection h' with _ ht
theorem OwS.blk {α : Type} {size : Nat} {enc : α → List Value} {w : World} {base n c g : Nat} {e : TypeId} {A : Option Addr} {l : List α} (h : OwS size enc w base e A n c l) (hg : A.map (·.block) = some g) : ∃ cs, Blk w g e cs := by
  rcases h.2.2 with ⟨hv, _⟩ | ⟨g', cap, cur, hv, _, hh, _⟩
  · injection hv with hv; subst hv; cases hg
  · injection hv with hv
    subst hv
    simp only [Option.map_some, Option.some.injEq] at hg
    subst hg
    exact ⟨cur.toList, by unfold Blk; rw [hh]⟩
theorem elemEv : ElemOf Try.prog 62 51 (.agg #[.int .i64 0, .int .i64 0, .slice none 0 0, .slice none 0 0]) 4 64 := ElemOf.mk' Try.underlying62 (by kernel_rfl) rfl (by decide)
set_option maxHeartbeats 2000000 in
/-- The closure of Events. -/
theorem ev1_any (gp gt g : Nat) (s : UInt64) (A : Option Addr) (n c : Nat) (ts : List Int) (w : World) (hp : w.cell? ⟨gp, 0, none⟩ = some (.pointer (some ⟨g, 0, none⟩))) (hg : w.cell? ⟨gt, 0, none⟩ = some (.slice A n c)) (hgp : gp < w.heap.size) (hgt : gt < w.heap.size) (ht : RI w A n ts) (hn : n ≤ maxLen) (h : LotAt w g s)
    (E : List Int → UInt64 → UInt64 × EvD) (hev : ∀ w, RI w A n ts → LotAt w g s → Calls Try.prog 24 #[.pointer (some ⟨g, 0, none⟩), .slice A n c] w (EvEnd LotAt w g (E ts s) mkOk)) :
    Calls Try.prog 71 #[.pointer (some ⟨gp, 0, none⟩), .pointer (some ⟨gt, 0, none⟩)] w (EvEnd LotAt w g (E ts s) mkId) := by
  have hlg := h.lt
  have hH := Lib.hid h
  clear h
  generalize E ts s = X at *
  go_enter Try.func71, Try.ntmps71
  go_wp2_with (first
    | ((go_at_call 24; (with_reducible refine (hev _ (ht.below (B := w.heap.size) (by (repeat' (first | (with_reducible exact Below.refl _ _) | (with_reducible assumption) | (with_reducible refine Below.drew ?_) | (with_reducible refine below_drewN ?_ _) | (with_reducible refine Below.alloc ?_ ?_ _) | (with_reducible refine Below.setCell ?_ ?_ _) | omega | (simp; done) | (simp; omega)))) (Nat.le_refl _)) (LotAt.alloc hH.out _)).mono ?_); rintro e w2 ⟨B1, n1, c1, B2, n2, c2, rfl, o1, o2, hl2, hk2⟩); have hz2 := Blk.keep (F := (· = g)) (w' := w2) (g := w.heap.size) (t := 51) (cs := [.int .i64 0, .int .i64 0, .slice none 0 0, .slice none 0 0]) (by (repeat' (first | (with_reducible assumption) | (with_reducible refine Blk.top _ (by first | rfl | omega | (simp; done) | (simp; omega)) rfl) | (with_reducible refine Blk.alloc ?_ _) | (with_reducible refine Blk.drew ?_) | (with_reducible refine Blk.drewN ?_ _) | (with_reducible refine Blk.far ?_ (by first | omega | (simp; done) | (simp; omega)) _)))) hk2 (by omega); have hzl := hz2.lt; obtain ⟨z0, z1, z2, z3⟩ := blk4 hz2; have fz := hz2.frozen)
    | fail "no arm")
  refine bodyPost_ret (v := mkId (.agg #[.int .i64 X.2.kind, .int .i64 X.2.num, .slice B1 n1 c1, .slice B2 n2 c2])) (by simp [results, Try.results71, go_sem , mkId, z0, z1, z2, z3, hzl]) rfl ?_
  have k2 : Keep (· = g) w w2 := ((Keep.refl _ _).alloc _).trans hk2 (fun _ _ e => e)
  exact ⟨B1, n1, c1, B2, n2, c2, rfl, ((o1.set4 (o1.ne_ hz2 (by decide)) _ _ _ _).keep ((Keep.refl (fun _ => False) _).alloc _) (fun _ _ e => e)).rebase (by simp), ((o2.set4 (o2.ne_ hz2 (by decide)) _ _ _ _).keep ((Keep.refl (fun _ => False) _).alloc _) (fun _ _ e => e)).rebase (by simp), LotAt.alloc (Blk.set4far hl2 (by omega) _ _ _ _) _, (k2.set4 (Nat.le_refl _) _ _ _ _).alloc _⟩

set_option maxRecDepth 100000 in
set_option maxHeartbeats 2000000 in
/-- 'more(n, ..)' with Events' closure. -/
theorem moreev_any (E : List Int → UInt64 → UInt64 × EvD) (V : Nat → UInt64 × List EvD) (gx gp gt g n : Nat) (A : Option Addr) (m c : Nat) (ts : List Int) (w : World) (hx : Blk w gx 117 [.slice none 0 0]) (hn : n ≤ 1000) (hp : Blk w gp 49 [.pointer (some ⟨g, 0, none⟩)]) (hg : Blk w gt 22 [.slice A m c]) (ht : RI w A m ts) (hm : m ≤ maxLen) (hA : A.map (·.block) ≠ some g ∧ A.map (·.block) ≠ some gx) (h : LotAt w g (V 0).1)
    (hev : ∀ s w, RI w A m ts → LotAt w g s → Calls Try.prog 24 #[.pointer (some ⟨g, 0, none⟩), .slice A m c] w (EvEnd LotAt w g (E ts s) mkOk))
    (hV0 : (V 0).2 = []) (hV : ∀ k, V (k + 1) = ((E ts (V k).1).1, (V k).2 ++ [(E ts (V k).1).2])) :
    Calls Try.prog 70 #[.pointer (some ⟨gx, 0, none⟩), .int .i64 (n : Int), .func (.func 71) #[] #[.pointer (some ⟨gp, 0, none⟩), .pointer (some ⟨gt, 0, none⟩)]] w
      fun e w' => e = .returned (.tuple #[]) ∧ ∃ A' c', Blk w' gx 117 [.slice A' n c'] ∧ EvsAt w' w.heap.size A' n c' (V n).2 ∧ LotAt w' g (V n).1 ∧ Keep (fun k => k = g ∨ k = gx) w w' := by
  have hxg : gx ≠ g := hx.ne_ h (by decide)
  have hpg : gp ≠ g := hp.ne_ h (by decide)
  have hpx : gp ≠ gx := hp.ne_ hx (by decide)
  have htg : gt ≠ g := hg.ne_ h (by decide)
  have htx : gt ≠ gx := hg.ne_ hx (by decide)
  have hX := Lib.hid hx
  have hP := Lib.hid hp
  have hG := Lib.hid hg
  have hH := Lib.hid h
  clear hx hp h hg
  go_enter Try.func70, Try.ntmps70
  go_wp2
  go_loopw [7] (fun i wr => ∃ (k : Nat) (B : Option Addr) (d : Nat), k ≤ n ∧ i = .int .i64 (k : Nat) ∧ Blk wr gx 117 [.slice B k d] ∧ EvsAt wr w.heap.size B k d (V k).2 ∧ LotAt wr g (V k).1 ∧ Blk wr gp 49 [.pointer (some ⟨g, 0, none⟩)] ∧ Blk wr gt 22 [.slice A m c] ∧ Keep (fun k => k = g ∨ k = gx) w wr) (fun i _ => n - (intOf i).toNat)
  case atStart => exact ⟨0, none, 0, by omega, rfl, hX.out, ⟨[], OwS.nil _ _ _ _ _, by rw [hV0]; rfl, fun k x y hx => by simp at hx⟩, hH.out, hP.out, hG.out, Keep.refl _ _⟩
  case round =>
    obtain ⟨k, B, d, hk, rfl, hx, ⟨rs, hown, hrl, hrel⟩, hl, hp, hg, hkeep⟩ := hrel
    have hsz := hkeep.size
    by_cases hlt : k < n
    · have c1 : wr.cell? ⟨gx, 0, none⟩ = some (.slice B k d) := hx.cell 0
      have f1 := hx.frozen 0
      have hAx := hown.ne_ hx (by decide)
      have hAg := hown.ne_ hl (by decide)
      have hAp := hown.ne_ hp (by decide)
      have hAt := hown.ne_ hg (by decide)
      have hc0 : ∀ g, B.map (·.block) = some g → w.heap.size ≤ g ∧ g < wr.heap.size := fun g hg => hown.2.lt g (by cases B with | none => cases hg | some a => simpa [Value.ownBlock] using hg)
      have htr := ht.keep hkeep (fun b e e2 => by rcases e2 with e2 | e2; exact hA.1 (by rw [e, e2]); exact hA.2 (by rw [e, e2]))
      have hrw := ev1_any gp gt g (V k).1 A m c ts wr.drew (hp.cell 0) (hg.cell 0) hp.lt hg.lt htr hm hl E (fun w h h' => hev (V k).1 w h h')
      have hS := Lib.hid (hV k)
      have hRel := Lib.hid hrel
      have hRl := Lib.hid hrl
      have hl' : Blk wr g _ _ := hl
      clear hrel hrl hl
      generalize hVk : V k = S at *
      generalize E ts S.1 = X at *
      go_wp2
      go_region_law (first
        | (go_simp; (go_at_call 71; (with_reducible refine (hrw).mono ?_); rintro e w1 ⟨B1, n1, c1', B2, n2, c2, rfl, o1, o2, hl1, hk1⟩); have hx1 := Blk.keep (F := (· = g)) (w' := w1) hx.drew hk1 hxg; have hp1 := Blk.keep (F := (· = g)) (w' := w1) hp.drew hk1 hpg; have hg1 := Blk.keep (F := (· = g)) (w' := w1) hg.drew hk1 htg; have ho1 : OwS 4 evRc w1 w.heap.size 51 B k d rs := OwS.keep hown (Keep.of_drew hk1) (fun b e e2 => hAg (by rw [e, e2])); have s1 : wr.heap.size ≤ w1.heap.size := hk1.size; have lx1 := hx1.lt; have c15 : w1.cell? ⟨gx, 0, none⟩ = some (.slice B k d) := hx1.cell 0)
        | (refine step_appS rfl rfl elemEv evRc_one (s := .tmp 13) (N := k + 1) (L := rs ++ [⟨X.2.kind, X.2.num, B1, n1, c1', B2, n2, c2⟩]) rfl (ho1.below (b := w1.heap.size) (by (repeat' (first | (with_reducible exact Below.refl _ _) | (with_reducible assumption) | (with_reducible refine Below.drew ?_) | (with_reducible refine below_drewN ?_ _) | (with_reducible refine Below.alloc ?_ ?_ _) | (with_reducible refine Below.setCell ?_ ?_ _) | omega | (simp; done) | (simp; omega)))) (Nat.le_refl _)) rfl (k := [⟨X.2.kind, X.2.num, B1, n1, c1', B2, n2, c2⟩]) (RdS.of_block (l := [(⟨X.2.kind, X.2.num, B1, n1, c1', B2, n2, c2⟩ : EvR)]) (heap_top _ _ (by simp)) evRc_len rfl) rfl rfl (by unfold maxLen; omega) (by omega) (by first | omega | (simp; done) | (simp; omega)) ?_; intro A5 c5 w5 hown5 hg5 hat5 hb5; have hx5 : Blk w5 gx 117 [.slice B k d] := Blk.grown (by (repeat' (first | (with_reducible assumption) | (with_reducible refine Blk.top _ (by first | rfl | omega | (simp; done) | (simp; omega)) rfl) | (with_reducible refine Blk.alloc ?_ _) | (with_reducible refine Blk.drew ?_) | (with_reducible refine Blk.drewN ?_ _) | (with_reducible refine Blk.far ?_ (by first | omega | (simp; done) | (simp; omega)) _)))) hg5 hAx; have c55 : w5.cell? ⟨gx, 0, none⟩ = some (.slice B k d) := hx5.cell 0; have f55 := hx5.frozen 0)
        | fail "no arm")
      all_goals
        go_wp2
        go_roundw
        case rel =>
          have kk1 : Keep (· = g) wr w1 := Keep.of_drew hk1
          have kk5 : Keep (fun x => B.map (·.block) = some x) w1 w5 := ((Keep.refl _ _).alloc _).trans (G := fun x => B.map (·.block) = some x) (Keep.of_grown hg5 (fun x e => e)) (fun _ _ e => e)
          have kkA : Keep (fun k => k = g ∨ k = gx) w w5 := (hkeep.trans kk1 (fun x _ e => .inl e)).trans kk5 (fun x hx e => by have := (hc0 _ e).1; omega)
          have kkB : Keep (fun x => x = gx ∨ B.map (·.block) = some x) w1 (w5.setCell ⟨gx, 0, none⟩ (.slice A5 (k + 1) c5)) := (kk5.mono (fun x _ e => .inr e)).set_ _ (.inl rfl)
          have kkC : Keep (fun x => x = g ∨ x = gx ∨ B.map (·.block) = some x) wr (w5.setCell ⟨gx, 0, none⟩ (.slice A5 (k + 1) c5)) := (kk1.mono (fun x _ e => .inl e)).trans kkB (fun x _ e => .inr e)
          refine ⟨k + 1, A5, c5, by omega, by go_num, hx5.set_ 0 _, ⟨_, OwS.setFar hown5 hx5 (by decide) 0 _, by rw [hS.out]; simp [hRl.out], ?_⟩, ?_, ?_, ?_, kkA.set_ _ (.inr rfl)⟩
          · intro j x y hj hy
            rw [hS.out] at hy
            have hrsl : rs.length = k := hown.1
            rcases Nat.lt_or_ge j k with h1 | h1
            · rw [List.getElem?_append_left (by omega)] at hj
              rw [List.getElem?_append_left (by rw [hRl.out]; exact h1)] at hy
              refine (hRel.out j x y hj hy).keep kkC (fun b t cs hb e => ?_)
              rcases e with e | e | e
              · subst e; rw [Blk.ty hb hl']; decide
              · subst e; rw [Blk.ty hb hx]; decide
              · obtain ⟨cs', hcs⟩ := OwS.blk hown e; rw [Blk.ty hb hcs]; decide
            · rw [List.getElem?_append_right (by omega), hrsl] at hj
              rw [List.getElem?_append_right (by rw [hRl.out]; exact h1), hRl.out] at hy
              have hjk : j - k = 0 := by
                rcases Nat.eq_zero_or_pos (j - k) with h2 | h2
                · exact h2
                · rw [List.getElem?_eq_none (by simp; omega)] at hj; cases hj
              rw [hjk] at hj hy
              simp only [List.getElem?_cons_zero, Option.some.injEq] at hj hy
              subst hj hy
              have hnew : evRel w1 w.heap.size ⟨X.2.kind, X.2.num, B1, n1, c1', B2, n2, c2⟩ X.2 := ⟨rfl, rfl, o1.rebase hsz, o2.rebase hsz⟩
              refine hnew.keep kkB (fun b t cs hb e => ?_)
              rcases e with e | e
              · subst e; rw [Blk.ty hb hx1]; decide
              · obtain ⟨cs', hcs⟩ := OwS.blk ho1 e; rw [Blk.ty hb hcs]; decide
          · rw [hS.out]; exact LotAt.keep hl1 kkB (fun e => by rcases e with e | e; exact hxg e.symm; exact (ho1.ne_ hl1 (by decide)) e)
          · exact hp1.keep kkB (fun e => by rcases e with e | e; exact hpx e; exact (ho1.ne_ hp1 (by decide)) e)
          · exact hg1.keep kkB (fun e => by rcases e with e | e; exact htx e; exact (ho1.ne_ hg1 (by decide)) e)
        case measure => simp [intOf]; omega
    · have hk9 : k = n := by omega
      subst hk9
      have Hf := Lib.hid (show ∃ A' c', Blk wr gx 117 [.slice A' k c'] ∧ EvsAt wr w.heap.size A' k c' (V k).2 ∧ LotAt wr g (V k).1 ∧ Keep (fun k => k = g ∨ k = gx) w wr from ⟨B, d, hx, ⟨rs, hown, hrl, hrel⟩, hl, hkeep⟩)
      clear hx hown hrl hrel hl hp hg hkeep
      go_wp2
      go_end0
      exact ⟨rfl, Hf.out⟩
end Go.Proofs.Ytkhihgilodhjfaa
