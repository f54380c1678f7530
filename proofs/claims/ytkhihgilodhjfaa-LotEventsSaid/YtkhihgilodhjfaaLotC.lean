/- Contracts of package lot and of its reference: Row; the choices of a crash. -/
import Derived.Test.YtkhihgilodhjfaaLotB
namespace Go.Proofs.Ytkhihgilodhjfaa
open Go.RowKit

theorem Row.keep {F : Nat → Prop} {w w' : World} {A : Option Addr} {n : Nat} {f : Nat → Value} (h : Row w A n f) (k : Keep F w w') (hF : ∀ b, A.map (·.block) = some b → ¬ F b) : Row w' A n f := fun h0 => by
  obtain ⟨b, o, rfl, hb, hc⟩ := h h0
  refine ⟨b, o, rfl, Nat.lt_of_lt_of_le hb k.size, fun i hi => ?_⟩
  rw [← hc i hi]
  have := k.block b hb (hF b rfl)
  simp only [World.cell?, this]
theorem RI.keep {F : Nat → Prop} {w w' : World} {A : Option Addr} {n : Nat} {l : List Int} (h : RI w A n l) (k : Keep F w w') (hF : ∀ b, A.map (·.block) = some b → ¬ F b) : RI w' A n l := ⟨h.1, h.2.keep k hF⟩
theorem Ow.keep {α : Type} {enc : α → Value} {F : Nat → Prop} {w w' : World} {base n c : Nat} {e : TypeId} {A : Option Addr} {l : List α} (h : Ow enc w base e A n c l) (k : Keep F w w') (hF : ∀ b, A.map (·.block) = some b → ¬ F b) : Ow enc w' base e A n c l :=
  ⟨h.1, own_keep h.2 k (fun x hx e => hF x (by cases A with | none => simp [Value.ownBlock] at hx | some a => simpa [Value.ownBlock] using hx) e)⟩
/-- Numbers that are read do not lie in a lot. -/
theorem RI.not_lot {w : World} {A : Option Addr} {n g : Nat} {l : List Int} {s : UInt64} (h : RI w A n l) (hn : 0 < n) (hl : LotAt w g s) : A.map (·.block) ≠ some g := fun e => by
  obtain ⟨b, o, rfl, _, hc⟩ := h.at_ hn
  simp only [Option.map_some, Option.some.injEq] at e
  subst e
  rw [Blk.cell hl] at hc
  rcases Nat.eq_zero_or_pos (o + 0) with h0 | h0
  · rw [h0] at hc; simp at hc
  · rw [List.getElem?_eq_none (by simp; omega)] at hc; cases hc

set_option maxRecDepth 100000 in
theorem row_any (g : Nat) (s : UInt64) (A : Option Addr) (n c : Nat) (ts : List Int) (w : World) (ht : RI w A n ts) (hn : n ≤ maxLen) (h : LotAt w g s) (hr : rightB ts = true) :
    Calls Try.prog 26 #[.pointer (some ⟨g, 0, none⟩), .slice A n c] w fun e w' => ∃ B d, e = .returned (.slice B n d) ∧ Ow iv w' w.heap.size 3 B n d (rowD ts s).2 ∧ LotAt w' g (rowD ts s).1 ∧ Keep (· = g) w w' := by
  have hright := fun w h => right_any A n c ts w h hn
  rw [hr] at hright
  obtain ⟨_, hr1, hr8⟩ := rightB_true.1 hr
  have hlen := ht.1
  have hAg := ht.not_lot (by omega) h
  have htake : ∀ k, k < n → Hid (rowD (ts.take (k + 1)) s = rowStep (rowD (ts.take k) s) (intAt ts k)) := fun k hk => rowD_take s (by omega)
  have hall : Hid (rowD (ts.take n) s = rowD ts s) := by show _ = _; rw [List.take_of_length_le (by omega)]
  have hH := Lib.hid h
  clear h hr
  rw [hlen] at hr1 hr8
  go_enter Try.func26, Try.ntmps26
  go_wp2_with (go_at_call 62; (with_reducible refine (hright _ (ht.below (B := w.heap.size) (by (repeat' (first | (with_reducible exact Below.refl _ _) | (with_reducible assumption) | (with_reducible refine Below.drew ?_) | (with_reducible refine below_drewN ?_ _) | (with_reducible refine Below.alloc ?_ ?_ _) | (with_reducible refine Below.setCell ?_ ?_ _) | omega | (simp; done) | (simp; omega)))) (Nat.le_refl _))).mono ?_); rintro e w1 ⟨rfl, rfl⟩)
  have hlt := hH.out.lt
  go_loopw [17] (fun i wr => ∃ (k : Nat) (B : Option Addr) (d : Nat), k ≤ n ∧ i = .int .i64 (k : Nat) ∧ Blk wr (w.heap.size + 1) 113 [.slice B k d] ∧ Ow iv wr w.heap.size 3 B k d (rowD (ts.take k) s).2 ∧ LotAt wr g (rowD (ts.take k) s).1 ∧ Blk wr w.heap.size 49 [.pointer (some ⟨g, 0, none⟩)] ∧ Keep (· = g) w wr) (fun i _ => n - (intOf i).toNat)
  case atStart => exact ⟨0, none, 0, by omega, rfl, (by (repeat' (first | (with_reducible assumption) | (with_reducible refine Blk.top _ (by first | rfl | omega | (simp; done) | (simp; omega)) rfl) | (with_reducible refine Blk.alloc ?_ _) | (with_reducible refine Blk.drew ?_) | (with_reducible refine Blk.drewN ?_ _) | (with_reducible refine Blk.far ?_ (by first | omega | (simp; done) | (simp; omega)) _)))), Ow.nil _ _ _ _, Blk.alloc (Blk.alloc hH.out _) _, (by (repeat' (first | (with_reducible assumption) | (with_reducible refine Blk.top _ (by first | rfl | omega | (simp; done) | (simp; omega)) rfl) | (with_reducible refine Blk.alloc ?_ _) | (with_reducible refine Blk.drew ?_) | (with_reducible refine Blk.drewN ?_ _) | (with_reducible refine Blk.far ?_ (by first | omega | (simp; done) | (simp; omega)) _)))), ((Keep.refl _ _).alloc _).alloc _⟩
  case round =>
    obtain ⟨k, B, d, hk, rfl, hx, hown, hl, hp, hkeep⟩ := hrel
    have hsz := hkeep.size
    have hx0 : wr.cell? ⟨w.heap.size + 1, 0, none⟩ = some (.slice B k d) := hx.cell 0
    have hxl := hx.lt
    by_cases hlt2 : k < n
    · obtain ⟨b, o, rfl, hb, hc⟩ := (ht.keep hkeep (fun b e e2 => hAg (by rw [e, e2]))).at_ hlt2
      have hst := htake k hlt2
      have hmore := fun w1 hx1 ho1 ht1 hp1 hl1 hb1 => morerow_any (w.heap.size + 1) wr.heap.size w.heap.size g B k d w.heap.size (intAt ts k) (rowD (ts.take k) s).1 (rowD (ts.take k) s).2 w1 hx1 ho1 hb1 (by omega) ht1 hp1 hl1
      have eD : Hid ((rowD (ts.take (k + 1)) s).1 = (drawT (rowD (ts.take k) s).1 (intAt ts k)).1 ∧ (rowD (ts.take (k + 1)) s).2 = (rowD (ts.take k) s).2 ++ [(drawT (rowD (ts.take k) s).1 (intAt ts k)).2]) := by
        show _ ∧ _
        rw [hst.out]; exact ⟨rfl, rfl⟩
      clear htake hall hst
      generalize rowD (ts.take k) s = R at *
      generalize drawT R.1 (intAt ts k) = D at *
      go_wp2_with ((go_at_call 65; (with_reducible refine (hmore _ (by (repeat' (first | (with_reducible assumption) | (with_reducible refine Blk.top _ (by first | rfl | omega | (simp; done) | (simp; omega)) rfl) | (with_reducible refine Blk.alloc ?_ _) | (with_reducible refine Blk.drew ?_) | (with_reducible refine Blk.drewN ?_ _) | (with_reducible refine Blk.far ?_ (by first | omega | (simp; done) | (simp; omega)) _)))) (hown.below (b := wr.heap.size) (by (repeat' (first | (with_reducible exact Below.refl _ _) | (with_reducible assumption) | (with_reducible refine Below.drew ?_) | (with_reducible refine below_drewN ?_ _) | (with_reducible refine Below.alloc ?_ ?_ _) | (with_reducible refine Below.setCell ?_ ?_ _) | omega | (simp; done) | (simp; omega)))) (Nat.le_refl _)) (by (repeat' (first | (with_reducible assumption) | (with_reducible refine Blk.top _ (by first | rfl | omega | (simp; done) | (simp; omega)) rfl) | (with_reducible refine Blk.alloc ?_ _) | (with_reducible refine Blk.drew ?_) | (with_reducible refine Blk.drewN ?_ _) | (with_reducible refine Blk.far ?_ (by first | omega | (simp; done) | (simp; omega)) _)))) (by (repeat' (first | (with_reducible assumption) | (with_reducible refine Blk.top _ (by first | rfl | omega | (simp; done) | (simp; omega)) rfl) | (with_reducible refine Blk.alloc ?_ _) | (with_reducible refine Blk.drew ?_) | (with_reducible refine Blk.drewN ?_ _) | (with_reducible refine Blk.far ?_ (by first | omega | (simp; done) | (simp; omega)) _)))) (LotAt.alloc hl _) (by first | omega | (simp; done) | (simp; omega))).mono ?_); rintro e w5 ⟨rfl, B5, d5, hx5, hown5, hl5, hk5⟩))
      have hkk : Keep (· = g) w w5 := (hkeep.alloc (.cells #[.int .i64 (intAt ts k)] 3)).trans hk5 (fun x hx e => by
        rcases e with e | e | e
        · exact e
        · omega
        · have := hown.lt _ e; omega)
      have hp5 : Blk w5 w.heap.size 49 [.pointer (some ⟨g, 0, none⟩)] := Blk.keep (Blk.alloc hp _) hk5 (fun e => by
        rcases e with e | e | e
        · omega
        · omega
        · exact hown.ne_ hp (by decide) e)
      go_roundw
      case rel => exact ⟨k + 1, B5, d5, by omega, by go_num, hx5, by rw [eD.out.2]; exact hown5, by rw [eD.out.1]; exact hl5, hp5, hkk⟩
      case measure => simp [intOf]; omega
    · have hk9 : k = n := by omega
      subst hk9
      rw [hall.out] at hown hl
      clear htake hall
      go_wp2
      go_ret
      exact ⟨B, d, rfl, hown, hl, hkeep⟩

set_option maxRecDepth 100000 in
theorem refrow_any (g : Nat) (s : UInt64) (A : Option Addr) (n c : Nat) (ts : List Int) (w : World) (ht : RI w A n ts) (h : RLotAt w g s) (hr : rightB ts = true) (hAg : A.map (·.block) ≠ some g) :
    Calls Try.prog 32 #[.pointer (some ⟨g, 0, none⟩), .slice A n c] w fun e w' => ∃ B d, e = .returned (.slice B n d) ∧ Ow iv w' w.heap.size 3 B n d (rowD ts s).2 ∧ RLotAt w' g (rowD ts s).1 ∧ Keep (· = g) w w' := by
  obtain ⟨_, hr1, hr8⟩ := rightB_true.1 hr
  have hlen := ht.1
  have htake : ∀ k, k < n → Hid (rowD (ts.take (k + 1)) s = rowStep (rowD (ts.take k) s) (intAt ts k)) := fun k hk => rowD_take s (by omega)
  have hall : Hid (rowD (ts.take n) s = rowD ts s) := by show _ = _; rw [List.take_of_length_le (by omega)]
  have hH := Lib.hid h
  clear h hr
  rw [hlen] at hr1 hr8
  go_enter Try.func32, Try.ntmps32
  go_wp2
  have hlt := hH.out.lt
  go_loopw [5, 6] (fun v i wr => ∃ (k : Nat) (B : Option Addr) (d : Nat), k ≤ n ∧ i = .int .i64 (k : Nat) ∧ v = .slice B k d ∧ Ow iv wr w.heap.size 3 B k d (rowD (ts.take k) s).2 ∧ RLotAt wr g (rowD (ts.take k) s).1 ∧ Keep (· = g) w wr) (fun _ i _ => n - (intOf i).toNat)
  case atStart => exact ⟨0, none, 0, by omega, rfl, rfl, Ow.nil _ _ _ _, hH.out, Keep.refl _ _⟩
  case round =>
    obtain ⟨k, B, d, hk, rfl, rfl, hown, hl, hkeep⟩ := hrel
    have hsz := hkeep.size
    by_cases hlt2 : k < n
    · obtain ⟨b, o, rfl, hb, hc⟩ := (ht.keep hkeep (fun b e e2 => hAg (by rw [e, e2]))).at_ hlt2
      have hst := htake k hlt2
      have eD : Hid ((rowD (ts.take (k + 1)) s).1 = (drawT (rowD (ts.take k) s).1 (intAt ts k)).1 ∧ (rowD (ts.take (k + 1)) s).2 = (rowD (ts.take k) s).2 ++ [(drawT (rowD (ts.take k) s).1 (intAt ts k)).2]) := by
        show _ ∧ _
        rw [hst.out]; exact ⟨rfl, rfl⟩
      have hb2 := fun w h => refbelow_any g (rowD (ts.take k) s).1 2 w h
      have hb201 := fun w h => refbelow_any g (rowD (ts.take k) s).1 201 w h
      have hx1 := lotB_pos (rowD (ts.take k) s).1 201
      have hx2 := lotB_below (rowD (ts.take k) s).1 201 (by decide)
      clear htake hall hst
      generalize hR : rowD (ts.take k) s = R at *
      replace hR := Lib.hid hR
      by_cases h2 : intAt ts k = 2
      · rw [h2] at hc eD
        rw [drawT_two] at eD
        clear h2 hb201 hx1 hx2
        generalize lotB R.1 2 = D at *
        go_wp2_with (first
          | ((go_at_call 28; (with_reducible refine (hb2 _ hl).mono ?_); rintro e w5 ⟨rfl, hl5, hk5⟩); have hown5 := hown.keep hk5 (fun b e e2 => (by have := hown.lt b e; have := hH.out.lt; omega)); have hs5 := hk5.size)
          | (at_builtin; refine wpList_app rfl rfl elemInt iv_one (s := .tmp 18) (N := k + 1) (L := R.2 ++ [D.2]) rfl (hown5.below (b := w5.heap.size) (by (repeat' (first | (with_reducible exact Below.refl _ _) | (with_reducible assumption) | (with_reducible refine Below.drew ?_) | (with_reducible refine below_drewN ?_ _) | (with_reducible refine Below.alloc ?_ ?_ _) | (with_reducible refine Below.setCell ?_ ?_ _) | omega | (simp; done) | (simp; omega)))) (by first | omega | (simp; done) | (simp; omega))) rfl (k := [D.2]) (Rd.of_block (l := [D.2]) (heap_top _ _ (by simp)) rfl) rfl (rfl) (by unfold maxLen; omega) (by omega) (by first | omega | (simp; done) | (simp; omega)) ?_; intro A6 c6 w6 hown6 hg6 hat6 hb6)
          | fail "no arm")
        go_roundw
        case rel => exact ⟨k + 1, A6, c6, by omega, by go_num, rfl, by rw [eD.out.2]; exact hown6, by rw [eD.out.1]; exact Blk.grown (hl5.alloc _) hg6 (hown5.ne_ hl5 (by decide)), ((hkeep.trans hk5 (fun _ _ e => e)).alloc (.cells #[.int .i64 (D.2)] 3)).trans (G := fun x => B.map (·.block) = some x) (Keep.of_grown hg6 (fun x e => e)) (fun x hx e => by have := (hown.lt _ e).1; omega)⟩
        case measure => simp [intOf]; omega
      · have f2 : (intAt ts k == 2) = false := by simp [h2]
        have eT : drawT R.1 (intAt ts k) = ((lotB R.1 201).1, (lotB R.1 201).2 - 100) := by unfold drawT; rw [if_neg h2]
        rw [eT] at eD
        clear h2 hb2 eT
        generalize lotB R.1 201 = D at *
        go_wp2_with (first
          | ((go_at_call 28; (with_reducible refine (hb201 _ hl).mono ?_); rintro e w5 ⟨rfl, hl5, hk5⟩); have hown5 := hown.keep hk5 (fun b e e2 => (by have := hown.lt b e; have := hH.out.lt; omega)); have hs5 := hk5.size)
          | (at_builtin; refine wpList_app rfl rfl elemInt iv_one (s := .tmp 23) (N := k + 1) (L := R.2 ++ [D.2 - 100]) rfl (hown5.below (b := w5.heap.size) (by (repeat' (first | (with_reducible exact Below.refl _ _) | (with_reducible assumption) | (with_reducible refine Below.drew ?_) | (with_reducible refine below_drewN ?_ _) | (with_reducible refine Below.alloc ?_ ?_ _) | (with_reducible refine Below.setCell ?_ ?_ _) | omega | (simp; done) | (simp; omega)))) (by first | omega | (simp; done) | (simp; omega))) rfl (k := [D.2 - 100]) (Rd.of_block (l := [D.2 - 100]) (heap_top _ _ (by simp)) rfl) rfl (rfl) (by unfold maxLen; omega) (by omega) (by first | omega | (simp; done) | (simp; omega)) ?_; intro A6 c6 w6 hown6 hg6 hat6 hb6)
          | fail "no arm")
        go_roundw
        case rel => exact ⟨k + 1, A6, c6, by omega, by go_num, rfl, by rw [eD.out.2]; exact hown6, by rw [eD.out.1]; exact Blk.grown (hl5.alloc _) hg6 (hown5.ne_ hl5 (by decide)), ((hkeep.trans hk5 (fun _ _ e => e)).alloc (.cells #[.int .i64 (D.2 - 100)] 3)).trans (G := fun x => B.map (·.block) = some x) (Keep.of_grown hg6 (fun x e => e)) (fun x hx e => by have := (hown.lt _ e).1; omega)⟩
        case measure => simp [intOf]; omega
    · have hk9 : k = n := by omega
      subst hk9
      rw [hall.out] at hown hl
      clear htake hall
      go_wp2
      go_ret
      exact ⟨B, d, rfl, hown, hl, hkeep⟩
end Go.Proofs.Ytkhihgilodhjfaa
