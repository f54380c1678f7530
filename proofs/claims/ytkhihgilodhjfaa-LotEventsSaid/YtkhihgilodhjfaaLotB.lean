/- Contracts of package lot and of its reference: Row. -/
import Derived.Test.YtkhihgilodhjfaaLotA
import Derived.Test.YtkhihgilodhjfaaRowA
import Derived.Deep.RegionHeld3
import Derived.Deep.RegionLaw
namespace Go.Proofs.Ytkhihgilodhjfaa
open Go.RowKit

theorem Ow.grownFar {α : Type} {enc : α → Value} {w w' : World} {base n c g : Nat} {e : TypeId} {A : Option Addr} {l : List α} (h : Ow enc w base e A n c l) (hg : w.grownBy w' (some g)) (hne : A.map (·.block) ≠ some g) : Ow enc w' base e A n c l :=
  ⟨h.1, own_keep (F := (· = g)) h.2 (Keep.of_grown hg (fun x e => by injection e with e; exact e.symm)) (fun x hx e => hne (by subst e; cases A with | none => simp [Value.ownBlock] at hx | some a => simpa [Value.ownBlock] using hx))⟩
/-- The closure of Row: one value. -/
theorem row1_any (gt gp g : Nat) (t : Int) (s : UInt64) (w : World) (ht : w.cell? ⟨gt, 0, none⟩ = some (.int .i64 t)) (hp : w.cell? ⟨gp, 0, none⟩ = some (.pointer (some ⟨g, 0, none⟩))) (h : LotAt w g s) :
    Calls Try.prog 66 #[.pointer (some ⟨gt, 0, none⟩), .pointer (some ⟨gp, 0, none⟩)] w fun e w' => e = .returned (.int .i64 (drawT s t).2) ∧ LotAt w' g (drawT s t).1 ∧ w.grownBy w' (some g) ∧ w'.heap.size = w.heap.size := by
  have h2 := fun w h => below_any g s 2 w h
  have h201 := fun w h => below_any g s 201 w h
  have hr1 := lotB_pos s 201
  have hr2 := lotB_below s 201 (by decide)
  unfold drawT
  by_cases h9 : t = 2
  · have f : (t == 2) = true := by rw [h9]; rfl
    rw [if_pos h9]
    clear h9
    go_enter Try.func66, Try.ntmps66
    go_wp2_with (go_at_call 25; (with_reducible refine (h2 _ h).mono ?_); rintro e w1 ⟨rfl, r1, r2, r3⟩)
    go_ret
    exact ⟨rfl, r1, r2, r3⟩
  · have f : (t == 2) = false := by rw [beq_eq_false_iff_ne]; exact h9
    rw [if_neg h9]
    clear h9
    generalize lotB s 201 = p at *
    go_enter Try.func66, Try.ntmps66
    go_wp2_with (go_at_call 25; (with_reducible refine (h201 _ h).mono ?_); rintro e w1 ⟨rfl, r1, r2, r3⟩)
    go_ret
    exact ⟨ret_int rfl, r1, r2, r3⟩

set_option maxRecDepth 100000 in
/-- 'more(1, ..)' with Row's closure. -/
theorem morerow_any (gx gt gp g : Nat) (A : Option Addr) (n c base : Nat) (t : Int) (s : UInt64) (l : List Int) (w : World) (hx : Blk w gx 113 [.slice A n c]) (hown : Ow iv w base 3 A n c l) (hb : base ≤ w.heap.size) (hn : n ≤ 1000)
    (ht : Blk w gt 3 [.int .i64 t]) (hp : Blk w gp 49 [.pointer (some ⟨g, 0, none⟩)]) (h : LotAt w g s) :
    Calls Try.prog 65 #[.pointer (some ⟨gx, 0, none⟩), .int .i64 1, .func (.func 66) #[] #[.pointer (some ⟨gt, 0, none⟩), .pointer (some ⟨gp, 0, none⟩)]] w
      fun e w' => e = .returned (.tuple #[]) ∧ ∃ A' c', Blk w' gx 113 [.slice A' (n + 1) c'] ∧ Ow iv w' base 3 A' (n + 1) c' (l ++ [(drawT s t).2]) ∧ LotAt w' g (drawT s t).1 ∧ Keep (fun k => k = g ∨ k = gx ∨ A.map (·.block) = some k) w w' := by
  have hr := fun w ht hp h => row1_any gt gp g t s w ht hp h
  have hdr := drawT_rng s t
  generalize drawT s t = D at *
  have c1 : w.cell? ⟨gx, 0, none⟩ = some (.slice A n c) := hx.cell 0
  have f1 := hx.frozen 0
  have hxg : gx ≠ g := hx.ne_ h (by decide)
  have htg : gt ≠ g := ht.ne_ h (by decide)
  have hpg : gp ≠ g := hp.ne_ h (by decide)
  have htx : gt ≠ gx := ht.ne_ hx (by decide)
  have hAx := hown.ne_ hx (by decide)
  have hAg := hown.ne_ h (by decide)
  go_enter Try.func65, Try.ntmps65
  go_wp2
  go_loopw [7] (fun i wr => (i = .int .i64 0 ∧ wr = w) ∨ (i = .int .i64 1 ∧ ∃ A' c', Blk wr gx 113 [.slice A' (n + 1) c'] ∧ Ow iv wr base 3 A' (n + 1) c' (l ++ [D.2]) ∧ LotAt wr g D.1 ∧ Keep (fun k => k = g ∨ k = gx ∨ A.map (·.block) = some k) w wr)) (fun i _ => 1 - (intOf i).toNat)
  case atStart => exact .inl ⟨rfl, rfl⟩
  case round =>
    rcases hrel with ⟨rfl, rfl⟩ | ⟨rfl, hfin⟩
    · have hrw := hr wr.drew (ht.cell 0) (hp.cell 0) h
      go_wp2
      go_region_law (first
        | (go_simp; (go_at_call 66; (with_reducible refine (hrw).mono ?_); rintro e w1 ⟨rfl, k1, k2, k3⟩); have hx1 := Blk.grown (w' := w1) hx.drew k2 (by simp; omega); have ho1 := hown.drew'.grownFar k2 hAg; have s1 : base ≤ w1.heap.size := (by rw [k3]; exact hb); have K3 := Lib.hid k3; clear k3; have lx1 := hx1.lt; have c15 : w1.cell? ⟨gx, 0, none⟩ = some (.slice A n c) := hx1.cell 0)
        | (refine step_app rfl rfl elemInt iv_one (s := .tmp 13) (N := n + 1) (L := l ++ [D.2]) rfl (ho1.below (b := w1.heap.size) (by (repeat' (first | (with_reducible exact Below.refl _ _) | (with_reducible assumption) | (with_reducible refine Below.drew ?_) | (with_reducible refine below_drewN ?_ _) | (with_reducible refine Below.alloc ?_ ?_ _) | (with_reducible refine Below.setCell ?_ ?_ _) | omega | (simp; done) | (simp; omega)))) (Nat.le_refl _)) rfl (k := [D.2]) (Rd.of_block (l := [D.2]) (heap_top _ _ (by simp)) rfl) rfl rfl (by unfold maxLen; omega) (by omega) (by first | omega | (simp; done) | (simp; omega)) ?_; intro A5 c5 w5 hown5 hg5 hat5 hb5; have hx5 : Blk w5 gx 113 [.slice A n c] := Blk.grown (by (repeat' (first | (with_reducible assumption) | (with_reducible refine Blk.top _ (by first | rfl | omega | (simp; done) | (simp; omega)) rfl) | (with_reducible refine Blk.alloc ?_ _) | (with_reducible refine Blk.drew ?_) | (with_reducible refine Blk.drewN ?_ _) | (with_reducible refine Blk.far ?_ (by first | omega | (simp; done) | (simp; omega)) _)))) hg5 hAx; have c55 : w5.cell? ⟨gx, 0, none⟩ = some (.slice A n c) := hx5.cell 0; have f55 := hx5.frozen 0; have hl5 : LotAt w5 g D.1 := Blk.grown (Blk.alloc k1 _) hg5 hAg)
        | fail "no arm")

      all_goals
        go_wp2
        go_roundw
        case rel =>
          have kk1 : Keep (fun k => k = g ∨ k = gx ∨ A.map (·.block) = some k) wr w1 := Keep.of_drew ((Keep.one k2).mono (fun x _ e => .inl e))
          have kk2 := (kk1.alloc (.cells #[.int .i64 D.2] 3)).then_grown hg5 (fun x e => .inr (.inr e))
          exact .inr ⟨rfl, A5, c5, hx5.set_ 0 _, hown5.setFar hx5 (by decide) 0 _, Blk.far hl5 (Ne.symm hxg) _, kk2.set_ _ (.inr (.inl rfl))⟩
        case measure => simp [intOf]
    · have Hf := Lib.hid hfin
      clear hfin
      go_wp2
      go_end0
      exact ⟨rfl, Hf.out⟩
end Go.Proofs.Ytkhihgilodhjfaa
