/- Contracts of package lot: Events, whole. -/
import Derived.Test.YtkhihgilodhjfaaLotF
namespace Go.Proofs.Ytkhihgilodhjfaa
open Go.RowKit

theorem EvsAt.rebase {w : World} {base base' : Nat} {A : Option Addr} {n c : Nat} {l : List EvD} (h : EvsAt w base A n c l) (hb : base' ≤ base) : EvsAt w base' A n c l := by
  obtain ⟨rs, ho, hl, hr⟩ := h
  exact ⟨rs, ho.rebase hb, hl, fun k x y hx hy => by obtain ⟨a, b, c, d⟩ := hr k x y hx hy; exact ⟨a, b, c.rebase hb, d.rebase hb⟩⟩
theorem events_bad (seed n : Int) (A : Option Addr) (m c : Nat) (ts : List Int) (w : World) (ht : RI w A m ts) (hm : m ≤ maxLen) (h : rightB ts = false ∨ n < 0 ∨ 4096 < n) :
    Calls Try.prog 34 #[.int .i64 seed, .slice A m c, .int .i64 n] w fun e w' => e = .returned (.tuple #[.slice none 0 0, .int .i64 2]) ∧ Below w.heap.size w w' := by
  have hright := fun w h => right_any A m c ts w h hm
  have hc : rightB ts = false ∨ (rightB ts = true ∧ n < 0) ∨ (rightB ts = true ∧ 0 ≤ n ∧ 4096 < n) := by
    cases hr : rightB ts with
    | false => exact .inl rfl
    | true =>
      rw [hr] at h
      rcases h with h | h | h
      · cases h
      · exact .inr (.inl ⟨rfl, h⟩)
      · exact .inr (.inr ⟨rfl, by omega, h⟩)
  clear h
  rcases hc with hr | ⟨hr, h1⟩ | ⟨hr, h1, h2⟩
  all_goals
    rw [hr] at hright
    go_enter Try.func34, Try.ntmps34
    go_wp2_with (go_at_call 62; (with_reducible refine (hright _ (ht.below (B := w.heap.size) (by (repeat' (first | (with_reducible exact Below.refl _ _) | (with_reducible assumption) | (with_reducible refine Below.drew ?_) | (with_reducible refine below_drewN ?_ _) | (with_reducible refine Below.alloc ?_ ?_ _) | (with_reducible refine Below.setCell ?_ ?_ _) | omega | (simp; done) | (simp; omega)))) (Nat.le_refl _))).mono ?_); rintro e w1 ⟨rfl, rfl⟩)
    go_ret2
    exact ⟨rfl, (by (repeat' (first | (with_reducible exact Below.refl _ _) | (with_reducible assumption) | (with_reducible refine Below.drew ?_) | (with_reducible refine below_drewN ?_ _) | (with_reducible refine Below.alloc ?_ ?_ _) | (with_reducible refine Below.setCell ?_ ?_ _) | omega | (simp; done) | (simp; omega))))⟩
set_option maxRecDepth 100000 in
set_option maxHeartbeats 2000000 in
theorem events_gen (E : List Int → UInt64 → UInt64 × EvD) (V : Nat → UInt64 × List EvD) (seed : Int) (n : Nat) (A : Option Addr) (m c : Nat) (ts : List Int) (w : World) (ht : RI w A m ts) (hm : m ≤ maxLen) (hn : n ≤ 1000) (hr : rightB ts = true)
    (hnew : ∀ w, Calls Try.prog 27 #[.int .i64 seed] w fun e w' => e = .returned (.pointer (some ⟨w.heap.size, 0, none⟩)) ∧ LotAt w' w.heap.size (V 0).1 ∧ Below w.heap.size w w' ∧ w'.heap.size = w.heap.size + 1)
    (hev : ∀ (g : Nat) (s : UInt64) (w : World), RI w A m ts → LotAt w g s → Calls Try.prog 24 #[.pointer (some ⟨g, 0, none⟩), .slice A m c] w (EvEnd LotAt w g (E ts s) mkOk))
    (hV0 : (V 0).2 = []) (hV : ∀ k, V (k + 1) = ((E ts (V k).1).1, (V k).2 ++ [(E ts (V k).1).2])) :
    Calls Try.prog 34 #[.int .i64 seed, .slice A m c, .int .i64 (n : Int)] w fun e w' => ∃ B d, e = .returned (.tuple #[.slice B n d, .int .i64 0]) ∧ EvsAt w' w.heap.size B n d (V n).2 ∧ Below w.heap.size w w' := by
  have hright := fun w h => right_any A m c ts w h hm
  rw [hr] at hright
  obtain ⟨_, hr1, hr8⟩ := rightB_true.1 hr
  rw [ht.1] at hr1 hr8
  have hA : ∀ g, w.heap.size ≤ g → A.map (·.block) ≠ some g := fun g hg e => by
    obtain ⟨b, o, rfl, hb, _⟩ := ht.at_ hr1
    simp only [Option.map_some, Option.some.injEq] at e
    omega
  have hmore := fun gx gp gt g w hx hp hg ht hA h => moreev_any E V gx gp gt g n A m c ts w hx hn hp hg ht hm hA h (fun s w h h' => hev g s w h h') hV0 hV
  go_enter Try.func34, Try.ntmps34
  go_wp2_with (first
    | (go_at_call 62; (with_reducible refine (hright _ (ht.below (B := w.heap.size) (by (repeat' (first | (with_reducible exact Below.refl _ _) | (with_reducible assumption) | (with_reducible refine Below.drew ?_) | (with_reducible refine below_drewN ?_ _) | (with_reducible refine Below.alloc ?_ ?_ _) | (with_reducible refine Below.setCell ?_ ?_ _) | omega | (simp; done) | (simp; omega)))) (Nat.le_refl _))).mono ?_); rintro e w1 ⟨rfl, rfl⟩)
    | ((go_at_call 27; (with_reducible refine (hnew _).mono ?_); rintro e w2 ⟨rfl, hl2, hb2, hs2⟩); have hg2 := Blk.below (w' := w2) (g := w.heap.size) (t := 22) (cs := [.slice A m c]) (by (repeat' (first | (with_reducible assumption) | (with_reducible refine Blk.top _ (by first | rfl | omega | (simp; done) | (simp; omega)) rfl) | (with_reducible refine Blk.alloc ?_ _) | (with_reducible refine Blk.drew ?_) | (with_reducible refine Blk.drewN ?_ _) | (with_reducible refine Blk.far ?_ (by first | omega | (simp; done) | (simp; omega)) _)))) hb2 (by first | omega | (simp; done) | (simp; omega)); have hl2' : LotAt w2 (w.heap.size + 1) (V 0).1 := (by simpa using hl2); clear hs2 hl2; replace hb2 := below_then' (a := w) (B := w.heap.size) (by (repeat' (first | (with_reducible exact Below.refl _ _) | (with_reducible assumption) | (with_reducible refine Below.drew ?_) | (with_reducible refine below_drewN ?_ _) | (with_reducible refine Below.alloc ?_ ?_ _) | (with_reducible refine Below.setCell ?_ ?_ _) | omega | (simp; done) | (simp; omega)))) hb2 (by first | omega | (simp; done) | (simp; omega)); have hb2s := hb2.size; have hlg := hl2'.lt)
    | ((go_at_call 70; (with_reducible refine (hmore _ _ _ _ _ (by (repeat' (first | (with_reducible assumption) | (with_reducible refine Blk.top _ (by first | rfl | omega | (simp; done) | (simp; omega)) rfl) | (with_reducible refine Blk.alloc ?_ _) | (with_reducible refine Blk.drew ?_) | (with_reducible refine Blk.drewN ?_ _) | (with_reducible refine Blk.far ?_ (by first | omega | (simp; done) | (simp; omega)) _)))) (by (repeat' (first | (with_reducible assumption) | (with_reducible refine Blk.top _ (by first | rfl | omega | (simp; done) | (simp; omega)) rfl) | (with_reducible refine Blk.alloc ?_ _) | (with_reducible refine Blk.drew ?_) | (with_reducible refine Blk.drewN ?_ _) | (with_reducible refine Blk.far ?_ (by first | omega | (simp; done) | (simp; omega)) _)))) (by (repeat' (first | (with_reducible assumption) | (with_reducible refine Blk.top _ (by first | rfl | omega | (simp; done) | (simp; omega)) rfl) | (with_reducible refine Blk.alloc ?_ _) | (with_reducible refine Blk.drew ?_) | (with_reducible refine Blk.drewN ?_ _) | (with_reducible refine Blk.far ?_ (by first | omega | (simp; done) | (simp; omega)) _)))) (ht.below (B := w.heap.size) (by (repeat' (first | (with_reducible exact Below.refl _ _) | (with_reducible assumption) | (with_reducible refine Below.drew ?_) | (with_reducible refine below_drewN ?_ _) | (with_reducible refine Below.alloc ?_ ?_ _) | (with_reducible refine Below.setCell ?_ ?_ _) | omega | (simp; done) | (simp; omega)))) (Nat.le_refl _)) ⟨hA _ (by omega), hA _ (by omega)⟩ (by (repeat' (first | (with_reducible assumption) | (with_reducible refine RLotAt.drew ?_) | (with_reducible refine RLotAt.drewN ?_ _) | (with_reducible refine RLotAt.alloc ?_ _) | (with_reducible refine LotAt.drew ?_) | (with_reducible refine LotAt.drewN ?_ _) | (with_reducible refine LotAt.alloc ?_ _))))).mono ?_); rintro e w3 ⟨rfl, B, d, hx3, hevs, hl3, hk3⟩); have hx0 : w3.cell? ⟨w2.heap.size + 1, 0, none⟩ = some (.slice B n d) := hx3.cell 0)
    | fail "no arm")
  have hb3 : Below w.heap.size w w3 := (((Keep.of_below (F := fun k => k = w.heap.size + 1 ∨ k = w2.heap.size + 1) hb2).alloc _).alloc _ |>.trans hk3 (fun _ _ e => e)).below (fun x e => by omega) (Nat.le_refl _)
  go_ret2
  exact ⟨B, d, rfl, hevs.rebase (by simp; omega), hb3⟩
theorem events_any (seed : Int) (n : Nat) (A : Option Addr) (m c : Nat) (ts : List Int) (w : World) (ht : RI w A m ts) (hm : m ≤ maxLen) (hn : n ≤ 1000) (hr : rightB ts = true) :
    Calls Try.prog 34 #[.int .i64 seed, .slice A m c, .int .i64 (n : Int)] w fun e w' => ∃ B d, e = .returned (.tuple #[.slice B n d, .int .i64 0]) ∧ EvsAt w' w.heap.size B n d (evsD ts (UInt64.ofNat (un seed)) n).2 ∧ Below w.heap.size w w' :=
  events_gen evD (evsD ts (UInt64.ofNat (un seed))) seed n A m c ts w ht hm hn hr (fun w => newlot_any seed w) (fun g s w h h' => event_any g s A m c ts w h hm h' hr) rfl (fun _ => rfl)
end Go.Proofs.Ytkhihgilodhjfaa
