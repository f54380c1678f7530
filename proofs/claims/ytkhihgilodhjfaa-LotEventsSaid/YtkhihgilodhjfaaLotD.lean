/- Contracts of package lot and of its reference: an event by lot. -/
import Derived.Test.YtkhihgilodhjfaaLotC
namespace Go.Proofs.Ytkhihgilodhjfaa
open Go.RowKit

theorem ch1_any (gp g : Nat) (s : UInt64) (w : World) (hp : w.cell? ⟨gp, 0, none⟩ = some (.pointer (some ⟨g, 0, none⟩))) (h : LotAt w g s) :
    Calls Try.prog 64 #[.pointer (some ⟨gp, 0, none⟩)] w fun e w' => e = .returned (.int .u8 (lotB s 256).2) ∧ LotAt w' g (lotB s 256).1 ∧ w.grownBy w' (some g) ∧ w'.heap.size = w.heap.size := by
  have h2 := fun w h => below_any g s 256 w h
  have hr1 := lotB_pos s 256
  have hr2 := lotB_below s 256 (by decide)
  generalize lotB s 256 = D at *
  have hw : IntKind.u8.wrap D.2 = D.2 := by simp [IntKind.wrap, IntKind.bits, IntKind.signed]; omega
  go_enter Try.func64, Try.ntmps64
  go_wp2_with (go_at_call 25; (with_reducible refine (h2 _ h).mono ?_); rintro e w1 ⟨rfl, r1, r2, r3⟩)
  go_ret
  exact ⟨ret_int (by first | rfl | exact hw), r1, r2, r3⟩

set_option maxRecDepth 100000 in
/-- 'more(n, ..)' with a crash's closure. -/
theorem morech_any (gx gp g n : Nat) (s : UInt64) (w : World) (hx : Blk w gx 105 [.slice none 0 0]) (hn : n ≤ 1000) (hp : Blk w gp 49 [.pointer (some ⟨g, 0, none⟩)]) (h : LotAt w g s) :
    Calls Try.prog 63 #[.pointer (some ⟨gx, 0, none⟩), .int .i64 (n : Int), .func (.func 64) #[] #[.pointer (some ⟨gp, 0, none⟩)]] w
      fun e w' => e = .returned (.tuple #[]) ∧ ∃ A' c', Blk w' gx 105 [.slice A' n c'] ∧ OB w' w.heap.size 5 A' n c' (chD s n).2 ∧ LotAt w' g (chD s n).1 ∧ Keep (fun k => k = g ∨ k = gx) w w' := by
  have hxg : gx ≠ g := hx.ne_ h (by decide)
  have hpg : gp ≠ g := hp.ne_ h (by decide)
  have hpx : gp ≠ gx := hp.ne_ hx (by decide)
  have hX := Lib.hid hx
  have hP := Lib.hid hp
  have hH := Lib.hid h
  clear hx hp h
  go_enter Try.func63, Try.ntmps63
  go_wp2
  go_loopw [7] (fun i wr => ∃ (k : Nat) (A : Option Addr) (c : Nat), k ≤ n ∧ i = .int .i64 (k : Nat) ∧ Blk wr gx 105 [.slice A k c] ∧ OB wr w.heap.size 5 A k c (chD s k).2 ∧ LotAt wr g (chD s k).1 ∧ Blk wr gp 49 [.pointer (some ⟨g, 0, none⟩)] ∧ Keep (fun k => k = g ∨ k = gx) w wr) (fun i _ => n - (intOf i).toNat)
  case atStart => exact ⟨0, none, 0, by omega, rfl, hX.out, Ow.nil _ _ _ _, hH.out, hP.out, Keep.refl _ _⟩
  case round =>
    obtain ⟨k, A, c, hk, rfl, hx, hown, hl, hp, hkeep⟩ := hrel
    have hsz := hkeep.size
    by_cases hlt : k < n
    · have c1 : wr.cell? ⟨gx, 0, none⟩ = some (.slice A k c) := hx.cell 0
      have f1 := hx.frozen 0
      have hAx := hown.ne_ hx (by decide)
      have hAg := hown.ne_ hl (by decide)
      have hAp := hown.ne_ hp (by decide)
      have hc0 := hown.lt
      have hrw := ch1_any gp g (chD s k).1 wr.drew (hp.cell 0) hl
      have hS : Hid (chD s (k + 1) = ((lotB (chD s k).1 256).1, (chD s k).2 ++ [UInt8.ofNat (lotB (chD s k).1 256).2.toNat])) := rfl
      have hr1 := lotB_pos (chD s k).1 256
      have hr2 := lotB_below (chD s k).1 256 (by decide)
      have hl' := Lib.hid hl
      clear hl
      generalize chD s k = S at *
      generalize lotB S.1 256 = D at *
      have hbv : Hid (bv (UInt8.ofNat D.2.toNat) = .int .u8 D.2) := by
        show _ = _
        rw [bv_ofNat (by omega)]; congr 1; omega
      go_wp2
      go_region_law (first
        | (go_simp; (go_at_call 64; (with_reducible refine (hrw).mono ?_); rintro e w1 ⟨rfl, k1, k2, k3⟩); have hx1 := Blk.grown (w' := w1) hx.drew k2 (by simp; omega); have ho1 := hown.drew'.grownFar k2 hAg; have s1 : w.heap.size ≤ w1.heap.size := (by rw [k3]; exact hsz); have K3 := Lib.hid k3; clear k3; have lx1 := hx1.lt; have c15 : w1.cell? ⟨gx, 0, none⟩ = some (.slice A k c) := hx1.cell 0; have hp1 := Blk.grown (w' := w1) hp.drew k2 (by simp; omega))
        | (refine step_app rfl rfl elemU8 bv_one (s := .tmp 13) (N := k + 1) (L := S.2 ++ [UInt8.ofNat D.2.toNat]) rfl (ho1.below (b := w1.heap.size) (by (repeat' (first | (with_reducible exact Below.refl _ _) | (with_reducible assumption) | (with_reducible refine Below.drew ?_) | (with_reducible refine below_drewN ?_ _) | (with_reducible refine Below.alloc ?_ ?_ _) | (with_reducible refine Below.setCell ?_ ?_ _) | omega | (simp; done) | (simp; omega)))) (Nat.le_refl _)) rfl (k := [UInt8.ofNat D.2.toNat]) (Rd.of_block (l := [UInt8.ofNat D.2.toNat]) (heap_top _ _ (by simp)) (congrArg (fun x => [x]) hbv.out.symm)) rfl rfl (by unfold maxLen; omega) (by omega) (by first | omega | (simp; done) | (simp; omega)) ?_; intro A5 c5 w5 hown5 hg5 hat5 hb5; have hx5 : Blk w5 gx 105 [.slice A k c] := Blk.grown (by (repeat' (first | (with_reducible assumption) | (with_reducible refine Blk.top _ (by first | rfl | omega | (simp; done) | (simp; omega)) rfl) | (with_reducible refine Blk.alloc ?_ _) | (with_reducible refine Blk.drew ?_) | (with_reducible refine Blk.drewN ?_ _) | (with_reducible refine Blk.far ?_ (by first | omega | (simp; done) | (simp; omega)) _)))) hg5 hAx; have c55 : w5.cell? ⟨gx, 0, none⟩ = some (.slice A k c) := hx5.cell 0; have f55 := hx5.frozen 0; have hl5 : LotAt w5 g D.1 := Blk.grown (Blk.alloc k1 _) hg5 hAg; have hp5 : Blk w5 gp 49 [.pointer (some ⟨g, 0, none⟩)] := Blk.grown (Blk.alloc hp1 _) hg5 hAp)
        | fail "no arm")
      all_goals
        go_wp2
        go_roundw
        case rel =>
          have kk1 : Keep (fun k => k = g ∨ k = gx) w w1 := (hkeep.trans (G := (· = g)) (Keep.of_drew (Keep.one k2)) (fun x _ e => .inl e))
          have kk2 := (kk1.alloc (.cells #[.int .u8 D.2] 5)).trans (G := fun x => A.map (·.block) = some x) (Keep.of_grown hg5 (fun x e => e)) (fun x hx e => by have := (hc0 _ e).1; omega)
          exact ⟨k + 1, A5, c5, by omega, by go_num, hx5.set_ 0 _, by rw [hS.out]; exact hown5.setFar hx5 (by decide) 0 _, by rw [hS.out]; exact Blk.far hl5 (Ne.symm hxg) _, hp5.far hpx _, kk2.set_ _ (.inr rfl)⟩
        case measure => simp [intOf]; omega
    · have hk9 : k = n := by omega
      subst hk9
      have Hf := Lib.hid (show ∃ A' c', Blk wr gx 105 [.slice A' k c'] ∧ OB wr w.heap.size 5 A' k c' (chD s k).2 ∧ LotAt wr g (chD s k).1 ∧ Keep (fun k => k = g ∨ k = gx) w wr from ⟨A, c, hx, hown, hl, hkeep⟩)
      clear hx hown hl hp hkeep
      go_wp2
      go_end0
      exact ⟨rfl, Hf.out⟩

theorem blk4 {w : World} {g : Nat} {t : TypeId} {v0 v1 v2 v3 : Value} (h : Blk w g t [v0, v1, v2, v3]) : w.cell? ⟨g, 0, none⟩ = some v0 ∧ w.cell? ⟨g, 1, none⟩ = some v1 ∧ w.cell? ⟨g, 2, none⟩ = some v2 ∧ w.cell? ⟨g, 3, none⟩ = some v3 := ⟨h.cell 0, h.cell 1, h.cell 2, h.cell 3⟩
theorem zeroEv : (Try.prog.info? 51).map (fun i => i.zero) = some (some (.agg #[.int .i64 0, .int .i64 0, .slice none 0 0, .slice none 0 0])) := by kernel_rfl
theorem RLotAt.setFar {w : World} {g : Nat} {s : UInt64} (h : RLotAt w g s) {b : Nat} (hne : g ≠ b) (i : Nat) (u : Value) : RLotAt (w.setCell ⟨b, i, none⟩ u) g s := Blk.far (p := ⟨b, i, none⟩) h hne u
theorem Ow.far {α : Type} {enc : α → Value} {w : World} {base n c : Nat} {e : TypeId} {A : Option Addr} {l : List α} (h : Ow enc w base e A n c l) {b : Nat} (hne : A.map (·.block) ≠ some b) (i : Nat) (u : Value) : Ow enc (w.setCell ⟨b, i, none⟩ u) base e A n c l :=
  h.keep (Keep.one (grown_setCell u)) (fun x e e2 => hne (by rw [e, e2]))
theorem Keep.setNew {F : Nat → Prop} {w w' : World} (k : Keep F w w') {b : Nat} (hb : w.heap.size ≤ b) (i : Nat) (u : Value) : Keep F w (w'.setCell ⟨b, i, none⟩ u) :=
  k.trans (G := (· = b)) (Keep.one (grown_setCell u)) (fun x hx e => by omega)
abbrev World.set4 (w : World) (b : Nat) (v0 v1 v2 v3 : Value) : World := (((w.setCell ⟨b, 0, none⟩ v0).setCell ⟨b, 1, none⟩ v1).setCell ⟨b, 2, none⟩ v2).setCell ⟨b, 3, none⟩ v3
theorem Ow.set4 {α : Type} {enc : α → Value} {w : World} {base n c : Nat} {e : TypeId} {A : Option Addr} {l : List α} (h : Ow enc w base e A n c l) {b : Nat} (hne : A.map (·.block) ≠ some b) (v0 v1 v2 v3 : Value) : Ow enc (World.set4 w b v0 v1 v2 v3) base e A n c l := (((h.far hne _ _).far hne _ _).far hne _ _).far hne _ _
theorem Keep.set4 {F : Nat → Prop} {w w' : World} (k : Keep F w w') {b : Nat} (hb : w.heap.size ≤ b) (v0 v1 v2 v3 : Value) : Keep F w (World.set4 w' b v0 v1 v2 v3) := (((k.setNew hb _ _).setNew hb _ _).setNew hb _ _).setNew hb _ _
theorem Blk.set4far {w : World} {g b : Nat} {t : TypeId} {cs : List Value} (h : Blk w g t cs) (hne : g ≠ b) (v0 v1 v2 v3 : Value) : Blk (World.set4 w b v0 v1 v2 v3) g t cs := (((h.far (p := ⟨b, 0, none⟩) hne _).far (p := ⟨b, 1, none⟩) hne _).far (p := ⟨b, 2, none⟩) hne _).far (p := ⟨b, 3, none⟩) hne _
/-- What a call that draws an event leaves. -/
def EvEnd (At : World → Nat → UInt64 → Prop) (w : World) (g : Nat) (r : UInt64 × EvD) (mk : Value → Value) (e : Ending) (w' : World) : Prop :=
  ∃ B1 n1 c1 B2 n2 c2, e = .returned (mk (.agg #[.int .i64 r.2.kind, .int .i64 r.2.num, .slice B1 n1 c1, .slice B2 n2 c2])) ∧ Ow iv w' w.heap.size 3 B1 n1 c1 r.2.row ∧ OB w' w.heap.size 5 B2 n2 c2 r.2.ch ∧ At w' g r.1 ∧ Keep (· = g) w w'
abbrev mkOk (v : Value) : Value := .tuple #[v, .int .i64 0]

set_option maxRecDepth 100000 in
set_option maxHeartbeats 2000000 in
theorem event_gen (L : UInt64 → Int → UInt64 × Int) (C : UInt64 → Nat → UInt64 × List UInt8) (RR : List Int → UInt64 → UInt64 × List Int) (g : Nat) (s : UInt64) (A : Option Addr) (n c : Nat) (ts : List Int) (w : World) (ht : RI w A n ts) (hn : n ≤ maxLen) (h : LotAt w g s) (hr : rightB ts = true)
    (hbelow : ∀ (s : UInt64) (k : Int) (w : World), LotAt w g s → Calls Try.prog 25 #[.pointer (some ⟨g, 0, none⟩), .int .i64 k] w fun e w' => e = .returned (.int .i64 (L s k).2) ∧ LotAt w' g (L s k).1 ∧ w.grownBy w' (some g) ∧ w'.heap.size = w.heap.size)
    (hrows : ∀ (s : UInt64) (w : World), RI w A n ts → LotAt w g s → Calls Try.prog 26 #[.pointer (some ⟨g, 0, none⟩), .slice A n c] w fun e w' => ∃ B d, e = .returned (.slice B n d) ∧ Ow iv w' w.heap.size 3 B n d (RR ts s).2 ∧ LotAt w' g (RR ts s).1 ∧ Keep (· = g) w w')
    (hches : ∀ (gx gp m : Nat) (s : UInt64) (w : World), Blk w gx 105 [.slice none 0 0] → m ≤ 1000 → Blk w gp 49 [.pointer (some ⟨g, 0, none⟩)] → LotAt w g s → Calls Try.prog 63 #[.pointer (some ⟨gx, 0, none⟩), .int .i64 (m : Int), .func (.func 64) #[] #[.pointer (some ⟨gp, 0, none⟩)]] w
      fun e w' => e = .returned (.tuple #[]) ∧ ∃ A' c', Blk w' gx 105 [.slice A' m c'] ∧ OB w' w.heap.size 5 A' m c' (C s m).2 ∧ LotAt w' g (C s m).1 ∧ Keep (fun k => k = g ∨ k = gx) w w')
    (hpos : ∀ s n, 0 ≤ (L s n).2) (hltn : ∀ s n, 1 ≤ n → (L s n).2 < n) :
    Calls Try.prog 24 #[.pointer (some ⟨g, 0, none⟩), .slice A n c] w (EvEnd LotAt w g (evG L C RR ts s) mkOk) := by
  have hright := fun w h => right_any A n c ts w h hn
  rw [hr] at hright
  obtain ⟨_, hr1, hr8⟩ := rightB_true.1 hr
  rw [ht.1] at hr1 hr8
  have hAg := ht.not_lot (by omega) h
  have hp1 := hpos s 20
  have hp2 := hltn s 20 (by decide)
  have hbel := fun w h => hbelow s 20 w h
  have hrow := fun w h1 h2 => hrows (L s 20).1 w h1 h2
  have h6 := fun w h => hbelow (L s 20).1 6 w h
  have h12 := fun w h => hbelow (L s 20).1 12 w h
  have h8 := fun w h => hbelow (L s 20).1 8 w h
  have hE : evG L C RR ts s = evG L C RR ts s := rfl
  conv at hE => rhs; unfold evG
  have hlg := h.lt
  have hH := Lib.hid h
  clear h hr
  generalize evG L C RR ts s = R at *
  generalize L s 20 = p at *
  obtain ⟨s1, v⟩ := p
  simp only at hp1 hp2 hrow h6 h12 h8 hE
  by_cases c1 : v ≤ 8
  · rw [if_pos c1] at hE
    subst hE
    generalize RR ts s1 = Q at *
    clear h6 h12 h8
    go_enter Try.func24, Try.ntmps24
    go_wp2_with (first
      | (go_at_call 62; (with_reducible refine (hright _ (ht.below (B := w.heap.size) (by (repeat' (first | (with_reducible exact Below.refl _ _) | (with_reducible assumption) | (with_reducible refine Below.drew ?_) | (with_reducible refine below_drewN ?_ _) | (with_reducible refine Below.alloc ?_ ?_ _) | (with_reducible refine Below.setCell ?_ ?_ _) | omega | (simp; done) | (simp; omega)))) (Nat.le_refl _))).mono ?_); rintro e w1 ⟨rfl, rfl⟩)
      | ((go_at_call 25; (with_reducible refine (hbel _ ((hH.out.alloc _).alloc _)).mono ?_); rintro e w2 ⟨rfl, hl2, hg2, hs2⟩); have hp2 := Blk.grown (w' := w2) (g := w.heap.size) (t := 49) (cs := [.pointer (some ⟨g, 0, none⟩)]) (by (repeat' (first | (with_reducible assumption) | (with_reducible refine Blk.top _ (by first | rfl | omega | (simp; done) | (simp; omega)) rfl) | (with_reducible refine Blk.alloc ?_ _) | (with_reducible refine Blk.drew ?_) | (with_reducible refine Blk.drewN ?_ _) | (with_reducible refine Blk.far ?_ (by first | omega | (simp; done) | (simp; omega)) _)))) hg2 (by first | omega | (simp; done) | (simp; omega)); have hz2 := Blk.grown (w' := w2) (g := w.heap.size + 1) (t := 51) (cs := [.int .i64 0, .int .i64 0, .slice none 0 0, .slice none 0 0]) (by (repeat' (first | (with_reducible assumption) | (with_reducible refine Blk.top _ (by first | rfl | omega | (simp; done) | (simp; omega)) rfl) | (with_reducible refine Blk.alloc ?_ _) | (with_reducible refine Blk.drew ?_) | (with_reducible refine Blk.drewN ?_ _) | (with_reducible refine Blk.far ?_ (by first | omega | (simp; done) | (simp; omega)) _)))) hg2 (by first | omega | (simp; done) | (simp; omega)); have k2 : Keep (· = g) w w2 := (((Keep.refl _ _).alloc _).alloc _).then_grown hg2 (fun x e => (by injection e with e; exact e.symm)); have ht2 := ht.keep k2 (fun b e e2 => hAg (by rw [e, e2])); have hq2 : w2.cell? ⟨w.heap.size, 0, none⟩ = some (.pointer (some ⟨g, 0, none⟩)) := hp2.cell 0; have S2 := Lib.hid hs2; clear hs2)
      | ((go_at_call 26; (with_reducible refine (hrow _ ht2 hl2).mono ?_); rintro e w3 ⟨B3, d3, rfl, hown3, hl3, hk3⟩); have hz3 := hz2.keep hk3 (by omega); have zz3 := hz3.lt; obtain ⟨z30, z31, z32, z33⟩ := blk4 hz3; have fz3 := hz3.frozen)
      | fail "no arm")
    refine bodyPost_ret (v := mkOk (.agg #[.int .i64 1, .int .i64 0, .slice B3 n d3, .slice none 0 0])) (by simp [results, Try.results24, go_sem , mkOk, z30, z31, z32, z33]) rfl ?_
    exact ⟨B3, n, d3, none, 0, 0, rfl, (hown3.set4 (hown3.ne_ hz3 (by decide)) _ _ _ _).rebase k2.size, Ow.nil _ _ _ _, Blk.set4far hl3 (by omega) _ _ _ _, (k2.trans hk3 (fun _ _ e => e)).set4 (by omega) _ _ _ _⟩
  rw [if_neg c1] at hE
  clear hrow
  by_cases c2 : v ≤ 14
  · rw [if_pos c2] at hE
    subst hE
    generalize L s1 6 = Q at *
    clear h12 h8
    go_enter Try.func24, Try.ntmps24
    go_wp2_with (first
      | (go_at_call 62; (with_reducible refine (hright _ (ht.below (B := w.heap.size) (by (repeat' (first | (with_reducible exact Below.refl _ _) | (with_reducible assumption) | (with_reducible refine Below.drew ?_) | (with_reducible refine below_drewN ?_ _) | (with_reducible refine Below.alloc ?_ ?_ _) | (with_reducible refine Below.setCell ?_ ?_ _) | omega | (simp; done) | (simp; omega)))) (Nat.le_refl _))).mono ?_); rintro e w1 ⟨rfl, rfl⟩)
      | ((go_at_call 25; (with_reducible refine (hbel _ ((hH.out.alloc _).alloc _)).mono ?_); rintro e w2 ⟨rfl, hl2, hg2, hs2⟩); have hp2 := Blk.grown (w' := w2) (g := w.heap.size) (t := 49) (cs := [.pointer (some ⟨g, 0, none⟩)]) (by (repeat' (first | (with_reducible assumption) | (with_reducible refine Blk.top _ (by first | rfl | omega | (simp; done) | (simp; omega)) rfl) | (with_reducible refine Blk.alloc ?_ _) | (with_reducible refine Blk.drew ?_) | (with_reducible refine Blk.drewN ?_ _) | (with_reducible refine Blk.far ?_ (by first | omega | (simp; done) | (simp; omega)) _)))) hg2 (by first | omega | (simp; done) | (simp; omega)); have hz2 := Blk.grown (w' := w2) (g := w.heap.size + 1) (t := 51) (cs := [.int .i64 0, .int .i64 0, .slice none 0 0, .slice none 0 0]) (by (repeat' (first | (with_reducible assumption) | (with_reducible refine Blk.top _ (by first | rfl | omega | (simp; done) | (simp; omega)) rfl) | (with_reducible refine Blk.alloc ?_ _) | (with_reducible refine Blk.drew ?_) | (with_reducible refine Blk.drewN ?_ _) | (with_reducible refine Blk.far ?_ (by first | omega | (simp; done) | (simp; omega)) _)))) hg2 (by first | omega | (simp; done) | (simp; omega)); have k2 : Keep (· = g) w w2 := (((Keep.refl _ _).alloc _).alloc _).then_grown hg2 (fun x e => (by injection e with e; exact e.symm)); have hq2 : w2.cell? ⟨w.heap.size, 0, none⟩ = some (.pointer (some ⟨g, 0, none⟩)) := hp2.cell 0; have S2 := Lib.hid hs2; clear hs2; obtain ⟨z20, z21, z22, z23⟩ := blk4 hz2; have fz2 := hz2.frozen; have zz2 := hz2.lt; have pp2 := hp2.lt)
      | ((go_at_call 25; (with_reducible refine (h6 _ hl2).mono ?_); rintro e w3 ⟨rfl, hl3, hg3, hs3⟩); have hp3 := hp2.grown hg3 (by first | omega | (simp; done) | (simp; omega)); have hz3 := hz2.grown hg3 (by first | omega | (simp; done) | (simp; omega)); have k3 : Keep (· = g) w w3 := k2.then_grown hg3 (fun x e => (by injection e with e; exact e.symm)); have hq3 : w3.cell? ⟨w.heap.size, 0, none⟩ = some (.pointer (some ⟨g, 0, none⟩)) := hp3.cell 0; have S3 := Lib.hid hs3; clear hs3; obtain ⟨z30, z31, z32, z33⟩ := blk4 hz3; have fz3 := hz3.frozen; have zz3 := hz3.lt; have pp3 := hp3.lt)
      | fail "no arm")
    refine bodyPost_ret (v := mkOk (.agg #[.int .i64 2, .int .i64 Q.2, .slice none 0 0, .slice none 0 0])) (by simp [results, Try.results24, go_sem , mkOk, z30, z31, z32, z33]) rfl ?_
    exact ⟨none, 0, 0, none, 0, 0, rfl, Ow.nil _ _ _ _, Ow.nil _ _ _ _, Blk.set4far hl3 (by omega) _ _ _ _, k3.set4 (by omega) _ _ _ _⟩
  rw [if_neg c2] at hE
  clear h6
  by_cases c3 : v = 15
  · rw [if_pos c3] at hE
    subst hE c3
    clear h12 h8
    go_enter Try.func24, Try.ntmps24
    go_wp2_with (first
      | (go_at_call 62; (with_reducible refine (hright _ (ht.below (B := w.heap.size) (by (repeat' (first | (with_reducible exact Below.refl _ _) | (with_reducible assumption) | (with_reducible refine Below.drew ?_) | (with_reducible refine below_drewN ?_ _) | (with_reducible refine Below.alloc ?_ ?_ _) | (with_reducible refine Below.setCell ?_ ?_ _) | omega | (simp; done) | (simp; omega)))) (Nat.le_refl _))).mono ?_); rintro e w1 ⟨rfl, rfl⟩)
      | ((go_at_call 25; (with_reducible refine (hbel _ ((hH.out.alloc _).alloc _)).mono ?_); rintro e w2 ⟨rfl, hl2, hg2, hs2⟩); have hp2 := Blk.grown (w' := w2) (g := w.heap.size) (t := 49) (cs := [.pointer (some ⟨g, 0, none⟩)]) (by (repeat' (first | (with_reducible assumption) | (with_reducible refine Blk.top _ (by first | rfl | omega | (simp; done) | (simp; omega)) rfl) | (with_reducible refine Blk.alloc ?_ _) | (with_reducible refine Blk.drew ?_) | (with_reducible refine Blk.drewN ?_ _) | (with_reducible refine Blk.far ?_ (by first | omega | (simp; done) | (simp; omega)) _)))) hg2 (by first | omega | (simp; done) | (simp; omega)); have hz2 := Blk.grown (w' := w2) (g := w.heap.size + 1) (t := 51) (cs := [.int .i64 0, .int .i64 0, .slice none 0 0, .slice none 0 0]) (by (repeat' (first | (with_reducible assumption) | (with_reducible refine Blk.top _ (by first | rfl | omega | (simp; done) | (simp; omega)) rfl) | (with_reducible refine Blk.alloc ?_ _) | (with_reducible refine Blk.drew ?_) | (with_reducible refine Blk.drewN ?_ _) | (with_reducible refine Blk.far ?_ (by first | omega | (simp; done) | (simp; omega)) _)))) hg2 (by first | omega | (simp; done) | (simp; omega)); have k2 : Keep (· = g) w w2 := (((Keep.refl _ _).alloc _).alloc _).then_grown hg2 (fun x e => (by injection e with e; exact e.symm)); have hq2 : w2.cell? ⟨w.heap.size, 0, none⟩ = some (.pointer (some ⟨g, 0, none⟩)) := hp2.cell 0; have S2 := Lib.hid hs2; clear hs2; obtain ⟨z20, z21, z22, z23⟩ := blk4 hz2; have fz2 := hz2.frozen; have zz2 := hz2.lt; have pp2 := hp2.lt)
      | fail "no arm")
    refine bodyPost_ret (v := mkOk (.agg #[.int .i64 3, .int .i64 0, .slice none 0 0, .slice none 0 0])) (by simp [results, Try.results24, go_sem , mkOk, z20, z21, z22, z23]) rfl ?_
    exact ⟨none, 0, 0, none, 0, 0, rfl, Ow.nil _ _ _ _, Ow.nil _ _ _ _, Blk.set4far hl2 (by omega) _ _ _ _, k2.set4 (by omega) _ _ _ _⟩
  rw [if_neg c3] at hE
  by_cases c4 : v = 16
  · rw [if_pos c4] at hE
    subst hE c4
    generalize L s1 12 = Q at *
    clear h8
    go_enter Try.func24, Try.ntmps24
    go_wp2_with (first
      | (go_at_call 62; (with_reducible refine (hright _ (ht.below (B := w.heap.size) (by (repeat' (first | (with_reducible exact Below.refl _ _) | (with_reducible assumption) | (with_reducible refine Below.drew ?_) | (with_reducible refine below_drewN ?_ _) | (with_reducible refine Below.alloc ?_ ?_ _) | (with_reducible refine Below.setCell ?_ ?_ _) | omega | (simp; done) | (simp; omega)))) (Nat.le_refl _))).mono ?_); rintro e w1 ⟨rfl, rfl⟩)
      | ((go_at_call 25; (with_reducible refine (hbel _ ((hH.out.alloc _).alloc _)).mono ?_); rintro e w2 ⟨rfl, hl2, hg2, hs2⟩); have hp2 := Blk.grown (w' := w2) (g := w.heap.size) (t := 49) (cs := [.pointer (some ⟨g, 0, none⟩)]) (by (repeat' (first | (with_reducible assumption) | (with_reducible refine Blk.top _ (by first | rfl | omega | (simp; done) | (simp; omega)) rfl) | (with_reducible refine Blk.alloc ?_ _) | (with_reducible refine Blk.drew ?_) | (with_reducible refine Blk.drewN ?_ _) | (with_reducible refine Blk.far ?_ (by first | omega | (simp; done) | (simp; omega)) _)))) hg2 (by first | omega | (simp; done) | (simp; omega)); have hz2 := Blk.grown (w' := w2) (g := w.heap.size + 1) (t := 51) (cs := [.int .i64 0, .int .i64 0, .slice none 0 0, .slice none 0 0]) (by (repeat' (first | (with_reducible assumption) | (with_reducible refine Blk.top _ (by first | rfl | omega | (simp; done) | (simp; omega)) rfl) | (with_reducible refine Blk.alloc ?_ _) | (with_reducible refine Blk.drew ?_) | (with_reducible refine Blk.drewN ?_ _) | (with_reducible refine Blk.far ?_ (by first | omega | (simp; done) | (simp; omega)) _)))) hg2 (by first | omega | (simp; done) | (simp; omega)); have k2 : Keep (· = g) w w2 := (((Keep.refl _ _).alloc _).alloc _).then_grown hg2 (fun x e => (by injection e with e; exact e.symm)); have hq2 : w2.cell? ⟨w.heap.size, 0, none⟩ = some (.pointer (some ⟨g, 0, none⟩)) := hp2.cell 0; have S2 := Lib.hid hs2; clear hs2; obtain ⟨z20, z21, z22, z23⟩ := blk4 hz2; have fz2 := hz2.frozen; have zz2 := hz2.lt; have pp2 := hp2.lt)
      | ((go_at_call 25; (with_reducible refine (h12 _ hl2).mono ?_); rintro e w3 ⟨rfl, hl3, hg3, hs3⟩); have hp3 := hp2.grown hg3 (by first | omega | (simp; done) | (simp; omega)); have hz3 := hz2.grown hg3 (by first | omega | (simp; done) | (simp; omega)); have k3 : Keep (· = g) w w3 := k2.then_grown hg3 (fun x e => (by injection e with e; exact e.symm)); have hq3 : w3.cell? ⟨w.heap.size, 0, none⟩ = some (.pointer (some ⟨g, 0, none⟩)) := hp3.cell 0; have S3 := Lib.hid hs3; clear hs3; obtain ⟨z30, z31, z32, z33⟩ := blk4 hz3; have fz3 := hz3.frozen; have zz3 := hz3.lt; have pp3 := hp3.lt)
      | fail "no arm")
    refine bodyPost_ret (v := mkOk (.agg #[.int .i64 4, .int .i64 Q.2, .slice none 0 0, .slice none 0 0])) (by simp [results, Try.results24, go_sem , mkOk, z30, z31, z32, z33]) rfl ?_
    exact ⟨none, 0, 0, none, 0, 0, rfl, Ow.nil _ _ _ _, Ow.nil _ _ _ _, Blk.set4far hl3 (by omega) _ _ _ _, k3.set4 (by omega) _ _ _ _⟩
  rw [if_neg c4] at hE
  clear h12
  subst hE
  have c5 : 17 ≤ v := by omega
  clear c1 c2 c3 c4
  have q1 := hpos s1 8
  have q2 := hltn s1 8 (by decide)
  have h5 := fun w h => hbelow (L s1 8).1 5 w h
  have u1 := hpos (L s1 8).1 5
  have u2 := hltn (L s1 8).1 5 (by decide)
  have hmore := fun gx gp w1 hx hp h => hches gx gp (L (L s1 8).1 5).2.toNat (L (L s1 8).1 5).1 w1 hx (by omega) hp h
  rw [show (((L (L s1 8).1 5).2.toNat : Nat) : Int) = (L (L s1 8).1 5).2 from by omega] at hmore
  generalize hU : L (L s1 8).1 5 = U at *
  clear hU
  generalize L s1 8 = Q at *
  generalize hm : U.2.toNat = m at *
  have Hm := Lib.hid hm
  clear hm
  generalize C U.1 m = Ch at *
  go_enter Try.func24, Try.ntmps24
  go_wp2_with (first
    | (go_at_call 62; (with_reducible refine (hright _ (ht.below (B := w.heap.size) (by (repeat' (first | (with_reducible exact Below.refl _ _) | (with_reducible assumption) | (with_reducible refine Below.drew ?_) | (with_reducible refine below_drewN ?_ _) | (with_reducible refine Below.alloc ?_ ?_ _) | (with_reducible refine Below.setCell ?_ ?_ _) | omega | (simp; done) | (simp; omega)))) (Nat.le_refl _))).mono ?_); rintro e w1 ⟨rfl, rfl⟩)
    | ((go_at_call 25; (with_reducible refine (hbel _ ((hH.out.alloc _).alloc _)).mono ?_); rintro e w2 ⟨rfl, hl2, hg2, hs2⟩); have hp2 := Blk.grown (w' := w2) (g := w.heap.size) (t := 49) (cs := [.pointer (some ⟨g, 0, none⟩)]) (by (repeat' (first | (with_reducible assumption) | (with_reducible refine Blk.top _ (by first | rfl | omega | (simp; done) | (simp; omega)) rfl) | (with_reducible refine Blk.alloc ?_ _) | (with_reducible refine Blk.drew ?_) | (with_reducible refine Blk.drewN ?_ _) | (with_reducible refine Blk.far ?_ (by first | omega | (simp; done) | (simp; omega)) _)))) hg2 (by first | omega | (simp; done) | (simp; omega)); have hz2 := Blk.grown (w' := w2) (g := w.heap.size + 1) (t := 51) (cs := [.int .i64 0, .int .i64 0, .slice none 0 0, .slice none 0 0]) (by (repeat' (first | (with_reducible assumption) | (with_reducible refine Blk.top _ (by first | rfl | omega | (simp; done) | (simp; omega)) rfl) | (with_reducible refine Blk.alloc ?_ _) | (with_reducible refine Blk.drew ?_) | (with_reducible refine Blk.drewN ?_ _) | (with_reducible refine Blk.far ?_ (by first | omega | (simp; done) | (simp; omega)) _)))) hg2 (by first | omega | (simp; done) | (simp; omega)); have k2 : Keep (· = g) w w2 := (((Keep.refl _ _).alloc _).alloc _).then_grown hg2 (fun x e => (by injection e with e; exact e.symm)); have hq2 : w2.cell? ⟨w.heap.size, 0, none⟩ = some (.pointer (some ⟨g, 0, none⟩)) := hp2.cell 0; have S2 := Lib.hid hs2; clear hs2; obtain ⟨z20, z21, z22, z23⟩ := blk4 hz2; have fz2 := hz2.frozen; have zz2 := hz2.lt; have pp2 := hp2.lt)
    | ((go_at_call 25; (with_reducible refine (h8 _ hl2).mono ?_); rintro e w3 ⟨rfl, hl3, hg3, hs3⟩); have hp3 := hp2.grown hg3 (by first | omega | (simp; done) | (simp; omega)); have hz3 := hz2.grown hg3 (by first | omega | (simp; done) | (simp; omega)); have k3 : Keep (· = g) w w3 := k2.then_grown hg3 (fun x e => (by injection e with e; exact e.symm)); have hq3 : w3.cell? ⟨w.heap.size, 0, none⟩ = some (.pointer (some ⟨g, 0, none⟩)) := hp3.cell 0; have S3 := Lib.hid hs3; clear hs3; obtain ⟨z30, z31, z32, z33⟩ := blk4 hz3; have fz3 := hz3.frozen; have zz3 := hz3.lt; have pp3 := hp3.lt)
    | ((go_at_call 25; (with_reducible refine (h5 _ ((hl3.alloc _).alloc _)).mono ?_); rintro e w4 ⟨rfl, hl4, hg4, hs4⟩); have hp4 := Blk.grown (w' := w4) (g := w.heap.size) (t := 49) (cs := [.pointer (some ⟨g, 0, none⟩)]) (by (repeat' (first | (with_reducible assumption) | (with_reducible refine Blk.top _ (by first | rfl | omega | (simp; done) | (simp; omega)) rfl) | (with_reducible refine Blk.alloc ?_ _) | (with_reducible refine Blk.drew ?_) | (with_reducible refine Blk.drewN ?_ _) | (with_reducible refine Blk.far ?_ (by first | omega | (simp; done) | (simp; omega)) _)))) hg4 (by first | omega | (simp; done) | (simp; omega)); have hz4 := Blk.grown (w' := w4) (g := w.heap.size + 1) (t := 51) (cs := [.int .i64 0, .int .i64 0, .slice none 0 0, .slice none 0 0]) (by (repeat' (first | (with_reducible assumption) | (with_reducible refine Blk.top _ (by first | rfl | omega | (simp; done) | (simp; omega)) rfl) | (with_reducible refine Blk.alloc ?_ _) | (with_reducible refine Blk.drew ?_) | (with_reducible refine Blk.drewN ?_ _) | (with_reducible refine Blk.far ?_ (by first | omega | (simp; done) | (simp; omega)) _)))) hg4 (by first | omega | (simp; done) | (simp; omega)); have hx4 := Blk.grown (w' := w4) (g := w3.heap.size) (t := 51) (cs := [.int .i64 5, .int .i64 (Q.2 - 1), .slice none 0 0, .slice none 0 0]) (by (repeat' (first | (with_reducible assumption) | (with_reducible refine Blk.top _ (by first | rfl | omega | (simp; done) | (simp; omega)) rfl) | (with_reducible refine Blk.alloc ?_ _) | (with_reducible refine Blk.drew ?_) | (with_reducible refine Blk.drewN ?_ _) | (with_reducible refine Blk.far ?_ (by first | omega | (simp; done) | (simp; omega)) _)))) hg4 (by first | omega | (simp; done) | (simp; omega)); have hy4 := Blk.grown (w' := w4) (g := w3.heap.size + 1) (t := 105) (cs := [.slice none 0 0]) (by (repeat' (first | (with_reducible assumption) | (with_reducible refine Blk.top _ (by first | rfl | omega | (simp; done) | (simp; omega)) rfl) | (with_reducible refine Blk.alloc ?_ _) | (with_reducible refine Blk.drew ?_) | (with_reducible refine Blk.drewN ?_ _) | (with_reducible refine Blk.far ?_ (by first | omega | (simp; done) | (simp; omega)) _)))) hg4 (by first | omega | (simp; done) | (simp; omega)); have k4 : Keep (· = g) w w4 := ((k3.alloc _).alloc _).then_grown hg4 (fun x e => (by injection e with e; exact e.symm)); have hq4 : w4.cell? ⟨w.heap.size, 0, none⟩ = some (.pointer (some ⟨g, 0, none⟩)) := hp4.cell 0; have S4 := Lib.hid hs4; clear hs4; have pp4 := hp4.lt)
    | ((go_at_call 63; (with_reducible refine (hmore _ _ _ hy4 hp4 hl4).mono ?_); rintro e w6 ⟨rfl, A6, c6, hy6, hown6, hl6, hk6⟩); have hz6 := hz4.keep hk6 (by omega); have hx6 := hx4.keep hk6 (by omega); have k6 : Keep (· = g) w w6 := k4.trans hk6 (fun x hx e => (by omega)); obtain ⟨z60, z61, z62, z63⟩ := blk4 hz6; obtain ⟨x60, x61, x62, x63⟩ := blk4 hx6; have fz6 := hz6.frozen; have fx6 := hx6.frozen; have y60 : w6.cell? ⟨w3.heap.size + 1, 0, none⟩ = some (.slice A6 m c6) := hy6.cell 0; have k4s := k4.size)
    | fail "no arm")
  refine bodyPost_ret (v := mkOk (.agg #[.int .i64 5, .int .i64 (Q.2 - 1), .slice none 0 0, .slice A6 m c6])) (by simp [results, Try.results24, go_sem , mkOk, z60, z61, z62, z63]) rfl ?_
  have hlx := hx4.lt
  exact ⟨none, 0, 0, A6, m, c6, rfl, Ow.nil _ _ _ _, ((hown6.far (hown6.ne_ hx6 (by decide)) _ _).set4 (hown6.ne_ hz6 (by decide)) _ _ _ _).rebase k4s, Blk.set4far (Blk.far (p := ⟨w3.heap.size, 3, none⟩) hl6 (show g ≠ w3.heap.size by omega) _) (by omega) _ _ _ _, (k6.setNew (by omega) _ _).set4 (by omega) _ _ _ _⟩

theorem event_any (g : Nat) (s : UInt64) (A : Option Addr) (n c : Nat) (ts : List Int) (w : World) (ht : RI w A n ts) (hn : n ≤ maxLen) (h : LotAt w g s) (hr : rightB ts = true) :
    Calls Try.prog 24 #[.pointer (some ⟨g, 0, none⟩), .slice A n c] w (EvEnd LotAt w g (evD ts s) mkOk) :=
  event_gen lotB chD rowD g s A n c ts w ht hn h hr (fun s k w h => below_any g s k w h) (fun s w h1 h2 => row_any g s A n c ts w h1 hn h2 hr) (fun gx gp m s w h1 h2 h3 h4 => morech_any gx gp g m s w h1 h2 h3 h4) lotB_pos lotB_below

abbrev mkId (v : Value) : Value := v
set_option maxRecDepth 100000 in
set_option maxHeartbeats 2000000 in
theorem refevent_gen (L : UInt64 → Int → UInt64 × Int) (C : UInt64 → Nat → UInt64 × List UInt8) (RR : List Int → UInt64 → UInt64 × List Int) (g : Nat) (s : UInt64) (A : Option Addr) (n c : Nat) (ts : List Int) (w : World) (ht : RI w A n ts) (h : RLotAt w g s) (hr : rightB ts = true) (hAg : A.map (·.block) ≠ some g)
    (hbelow : ∀ (s : UInt64) (k : Int) (w : World), RLotAt w g s → Calls Try.prog 28 #[.pointer (some ⟨g, 0, none⟩), .int .i64 k] w fun e w' => e = .returned (.int .i64 (L s k).2) ∧ RLotAt w' g (L s k).1 ∧ Keep (· = g) w w')
    (hrows : ∀ (s : UInt64) (w : World), RI w A n ts → RLotAt w g s → Calls Try.prog 32 #[.pointer (some ⟨g, 0, none⟩), .slice A n c] w fun e w' => ∃ B d, e = .returned (.slice B n d) ∧ Ow iv w' w.heap.size 3 B n d (RR ts s).2 ∧ RLotAt w' g (RR ts s).1 ∧ Keep (· = g) w w')
    (hC0 : ∀ s, C s 0 = (s, [])) (hC1 : ∀ s k, C s (k + 1) = ((L (C s k).1 256).1, (C s k).2 ++ [UInt8.ofNat (L (C s k).1 256).2.toNat]))
    (hpos : ∀ s n, 0 ≤ (L s n).2) (hltn : ∀ s n, 1 ≤ n → (L s n).2 < n) :
    Calls Try.prog 33 #[.pointer (some ⟨g, 0, none⟩), .slice A n c] w (EvEnd RLotAt w g (evG L C RR ts s) mkId) := by
  obtain ⟨_, hr1, hr8⟩ := rightB_true.1 hr
  rw [ht.1] at hr1 hr8
  have hp1 := hpos s 20
  have hp2 := hltn s 20 (by decide)
  have hbel := fun w h => hbelow s 20 w h
  have hrow := fun w h1 h2 => hrows (L s 20).1 w h1 h2
  have h6 := fun w h => hbelow (L s 20).1 6 w h
  have h12 := fun w h => hbelow (L s 20).1 12 w h
  have h8 := fun w h => hbelow (L s 20).1 8 w h
  have hE : evG L C RR ts s = evG L C RR ts s := rfl
  conv at hE => rhs; unfold evG
  have hlg := h.lt
  have hH := Lib.hid h
  clear h hr
  generalize evG L C RR ts s = R at *
  generalize L s 20 = p at *
  obtain ⟨s1, v⟩ := p
  simp only at hp1 hp2 hrow h6 h12 h8 hE
  by_cases c1 : v ≤ 8
  · rw [if_pos c1] at hE
    subst hE
    generalize RR ts s1 = Q at *
    clear h6 h12 h8
    go_enter Try.func33, Try.ntmps33
    go_wp2_with (first
      | ((go_at_call 28; (with_reducible refine (hbel _ (hH.out.alloc _)).mono ?_); rintro e w2 ⟨rfl, hl2, hk2⟩); have hz2 := Blk.keep (F := (· = g)) (w' := w2) (g := w.heap.size) (t := 51) (cs := [.int .i64 0, .int .i64 0, .slice none 0 0, .slice none 0 0]) (by (repeat' (first | (with_reducible assumption) | (with_reducible refine Blk.top _ (by first | rfl | omega | (simp; done) | (simp; omega)) rfl) | (with_reducible refine Blk.alloc ?_ _) | (with_reducible refine Blk.drew ?_) | (with_reducible refine Blk.drewN ?_ _) | (with_reducible refine Blk.far ?_ (by first | omega | (simp; done) | (simp; omega)) _)))) hk2 (by omega); have k2 : Keep (· = g) w w2 := (((Keep.refl _ _).alloc _).trans hk2 (fun _ _ e => e)); have ht2 := ht.keep k2 (fun b e e2 => hAg (by rw [e, e2])); obtain ⟨z20, z21, z22, z23⟩ := blk4 hz2; have fz2 := hz2.frozen; have zz2 := hz2.lt)
      | ((go_at_call 32; (with_reducible refine (hrow _ ht2 hl2).mono ?_); rintro e w3 ⟨B3, d3, rfl, hown3, hl3, hk3⟩); have hz3 := hz2.keep hk3 (by omega); have zz3 := hz3.lt; obtain ⟨z30, z31, z32, z33⟩ := blk4 hz3; have fz3 := hz3.frozen)
      | fail "no arm")
    refine bodyPost_ret (v := mkId (.agg #[.int .i64 1, .int .i64 0, .slice B3 n d3, .slice none 0 0])) (by simp [results, Try.results33, go_sem , mkId, z30, z31, z32, z33]) rfl ?_
    exact ⟨B3, n, d3, none, 0, 0, rfl, (hown3.set4 (hown3.ne_ hz3 (by decide)) _ _ _ _).rebase k2.size, Ow.nil _ _ _ _, Blk.set4far hl3 (by omega) _ _ _ _, (k2.trans hk3 (fun _ _ e => e)).set4 (by omega) _ _ _ _⟩
  rw [if_neg c1] at hE
  clear hrow
  by_cases c2 : v ≤ 14
  · rw [if_pos c2] at hE
    subst hE
    generalize L s1 6 = Q at *
    clear h12 h8
    go_enter Try.func33, Try.ntmps33
    go_wp2_with (first
      | ((go_at_call 28; (with_reducible refine (hbel _ (hH.out.alloc _)).mono ?_); rintro e w2 ⟨rfl, hl2, hk2⟩); have hz2 := Blk.keep (F := (· = g)) (w' := w2) (g := w.heap.size) (t := 51) (cs := [.int .i64 0, .int .i64 0, .slice none 0 0, .slice none 0 0]) (by (repeat' (first | (with_reducible assumption) | (with_reducible refine Blk.top _ (by first | rfl | omega | (simp; done) | (simp; omega)) rfl) | (with_reducible refine Blk.alloc ?_ _) | (with_reducible refine Blk.drew ?_) | (with_reducible refine Blk.drewN ?_ _) | (with_reducible refine Blk.far ?_ (by first | omega | (simp; done) | (simp; omega)) _)))) hk2 (by omega); have k2 : Keep (· = g) w w2 := (((Keep.refl _ _).alloc _).trans hk2 (fun _ _ e => e)); have ht2 := ht.keep k2 (fun b e e2 => hAg (by rw [e, e2])); obtain ⟨z20, z21, z22, z23⟩ := blk4 hz2; have fz2 := hz2.frozen; have zz2 := hz2.lt)
      | ((go_at_call 28; (with_reducible refine (h6 _ hl2).mono ?_); rintro e w3 ⟨rfl, hl3, hk3⟩); have hz3 := hz2.keep hk3 (by omega); have k3 : Keep (· = g) w w3 := k2.trans hk3 (fun _ _ e => e); obtain ⟨z30, z31, z32, z33⟩ := blk4 hz3; have fz3 := hz3.frozen; have zz3 := hz3.lt)
      | fail "no arm")
    refine bodyPost_ret (v := mkId (.agg #[.int .i64 2, .int .i64 Q.2, .slice none 0 0, .slice none 0 0])) (by simp [results, Try.results33, go_sem , mkId, z30, z31, z32, z33]) rfl ?_
    exact ⟨none, 0, 0, none, 0, 0, rfl, Ow.nil _ _ _ _, Ow.nil _ _ _ _, Blk.set4far hl3 (by omega) _ _ _ _, k3.set4 (by omega) _ _ _ _⟩
  rw [if_neg c2] at hE
  clear h6
  by_cases c3 : v = 15
  · rw [if_pos c3] at hE
    subst hE c3
    clear h12 h8
    go_enter Try.func33, Try.ntmps33
    go_wp2_with (first
      | ((go_at_call 28; (with_reducible refine (hbel _ (hH.out.alloc _)).mono ?_); rintro e w2 ⟨rfl, hl2, hk2⟩); have hz2 := Blk.keep (F := (· = g)) (w' := w2) (g := w.heap.size) (t := 51) (cs := [.int .i64 0, .int .i64 0, .slice none 0 0, .slice none 0 0]) (by (repeat' (first | (with_reducible assumption) | (with_reducible refine Blk.top _ (by first | rfl | omega | (simp; done) | (simp; omega)) rfl) | (with_reducible refine Blk.alloc ?_ _) | (with_reducible refine Blk.drew ?_) | (with_reducible refine Blk.drewN ?_ _) | (with_reducible refine Blk.far ?_ (by first | omega | (simp; done) | (simp; omega)) _)))) hk2 (by omega); have k2 : Keep (· = g) w w2 := (((Keep.refl _ _).alloc _).trans hk2 (fun _ _ e => e)); have ht2 := ht.keep k2 (fun b e e2 => hAg (by rw [e, e2])); obtain ⟨z20, z21, z22, z23⟩ := blk4 hz2; have fz2 := hz2.frozen; have zz2 := hz2.lt)
      | fail "no arm")
    refine bodyPost_ret (v := mkId (.agg #[.int .i64 3, .int .i64 0, .slice none 0 0, .slice none 0 0])) (by simp [results, Try.results33, go_sem , mkId, z20, z21, z22, z23]) rfl ?_
    exact ⟨none, 0, 0, none, 0, 0, rfl, Ow.nil _ _ _ _, Ow.nil _ _ _ _, Blk.set4far hl2 (by omega) _ _ _ _, k2.set4 (by omega) _ _ _ _⟩
  rw [if_neg c3] at hE
  by_cases c4 : v = 16
  · rw [if_pos c4] at hE
    subst hE c4
    generalize L s1 12 = Q at *
    clear h8
    go_enter Try.func33, Try.ntmps33
    go_wp2_with (first
      | ((go_at_call 28; (with_reducible refine (hbel _ (hH.out.alloc _)).mono ?_); rintro e w2 ⟨rfl, hl2, hk2⟩); have hz2 := Blk.keep (F := (· = g)) (w' := w2) (g := w.heap.size) (t := 51) (cs := [.int .i64 0, .int .i64 0, .slice none 0 0, .slice none 0 0]) (by (repeat' (first | (with_reducible assumption) | (with_reducible refine Blk.top _ (by first | rfl | omega | (simp; done) | (simp; omega)) rfl) | (with_reducible refine Blk.alloc ?_ _) | (with_reducible refine Blk.drew ?_) | (with_reducible refine Blk.drewN ?_ _) | (with_reducible refine Blk.far ?_ (by first | omega | (simp; done) | (simp; omega)) _)))) hk2 (by omega); have k2 : Keep (· = g) w w2 := (((Keep.refl _ _).alloc _).trans hk2 (fun _ _ e => e)); have ht2 := ht.keep k2 (fun b e e2 => hAg (by rw [e, e2])); obtain ⟨z20, z21, z22, z23⟩ := blk4 hz2; have fz2 := hz2.frozen; have zz2 := hz2.lt)
      | ((go_at_call 28; (with_reducible refine (h12 _ hl2).mono ?_); rintro e w3 ⟨rfl, hl3, hk3⟩); have hz3 := hz2.keep hk3 (by omega); have k3 : Keep (· = g) w w3 := k2.trans hk3 (fun _ _ e => e); obtain ⟨z30, z31, z32, z33⟩ := blk4 hz3; have fz3 := hz3.frozen; have zz3 := hz3.lt)
      | fail "no arm")
    refine bodyPost_ret (v := mkId (.agg #[.int .i64 4, .int .i64 Q.2, .slice none 0 0, .slice none 0 0])) (by simp [results, Try.results33, go_sem , mkId, z30, z31, z32, z33]) rfl ?_
    exact ⟨none, 0, 0, none, 0, 0, rfl, Ow.nil _ _ _ _, Ow.nil _ _ _ _, Blk.set4far hl3 (by omega) _ _ _ _, k3.set4 (by omega) _ _ _ _⟩
  rw [if_neg c4] at hE
  clear h12
  subst hE
  have c5 : 17 ≤ v := by omega
  clear c1 c2 c3 c4
  have q1 := hpos s1 8
  have q2 := hltn s1 8 (by decide)
  have h5 := fun w h => hbelow (L s1 8).1 5 w h
  have u1 := hpos (L s1 8).1 5
  have u2 := hltn (L s1 8).1 5 (by decide)
  have hmi : (((L (L s1 8).1 5).2.toNat : Nat) : Int) = (L (L s1 8).1 5).2 := by omega
  generalize hU : L (L s1 8).1 5 = U at *
  clear hU
  generalize L s1 8 = Q at *
  generalize hm : U.2.toNat = m at *
  have Hm := Lib.hid hm
  clear hm
  have hm5 : m ≤ 5 := by omega
  rw [← hmi] at h5
  go_enter Try.func33, Try.ntmps33
  go_wp2_with (first
    | ((go_at_call 28; (with_reducible refine (hbel _ (hH.out.alloc _)).mono ?_); rintro e w2 ⟨rfl, hl2, hk2⟩); have hz2 := Blk.keep (F := (· = g)) (w' := w2) (g := w.heap.size) (t := 51) (cs := [.int .i64 0, .int .i64 0, .slice none 0 0, .slice none 0 0]) (by (repeat' (first | (with_reducible assumption) | (with_reducible refine Blk.top _ (by first | rfl | omega | (simp; done) | (simp; omega)) rfl) | (with_reducible refine Blk.alloc ?_ _) | (with_reducible refine Blk.drew ?_) | (with_reducible refine Blk.drewN ?_ _) | (with_reducible refine Blk.far ?_ (by first | omega | (simp; done) | (simp; omega)) _)))) hk2 (by omega); have k2 : Keep (· = g) w w2 := (((Keep.refl _ _).alloc _).trans hk2 (fun _ _ e => e)); have ht2 := ht.keep k2 (fun b e e2 => hAg (by rw [e, e2])); obtain ⟨z20, z21, z22, z23⟩ := blk4 hz2; have fz2 := hz2.frozen; have zz2 := hz2.lt)
    | ((go_at_call 28; (with_reducible refine (h8 _ (hl2.alloc _)).mono ?_); rintro e w3 ⟨rfl, hl3, hk3⟩); have hz3 := Blk.keep (F := (· = g)) (w' := w3) (g := w.heap.size) (t := 51) (cs := [.int .i64 0, .int .i64 0, .slice none 0 0, .slice none 0 0]) (by (repeat' (first | (with_reducible assumption) | (with_reducible refine Blk.top _ (by first | rfl | omega | (simp; done) | (simp; omega)) rfl) | (with_reducible refine Blk.alloc ?_ _) | (with_reducible refine Blk.drew ?_) | (with_reducible refine Blk.drewN ?_ _) | (with_reducible refine Blk.far ?_ (by first | omega | (simp; done) | (simp; omega)) _)))) hk3 (by omega); have hx3 := Blk.keep (F := (· = g)) (w' := w3) (g := w2.heap.size) (t := 51) (cs := [.int .i64 5, .int .i64 0, .slice none 0 0, .slice none 0 0]) (by (repeat' (first | (with_reducible assumption) | (with_reducible refine Blk.top _ (by first | rfl | omega | (simp; done) | (simp; omega)) rfl) | (with_reducible refine Blk.alloc ?_ _) | (with_reducible refine Blk.drew ?_) | (with_reducible refine Blk.drewN ?_ _) | (with_reducible refine Blk.far ?_ (by first | omega | (simp; done) | (simp; omega)) _)))) hk3 (by omega); have k3 : Keep (· = g) w w3 := ((k2.alloc _).trans hk3 (fun _ _ e => e)); obtain ⟨x30, x31, x32, x33⟩ := blk4 hx3; have fx3 := hx3.frozen; have xx3 := hx3.lt)
    | ((go_at_call 28; (with_reducible refine (h5 _ (RLotAt.setFar hl3 (by omega) _ _)).mono ?_); rintro e w4 ⟨rfl, hl4, hk4⟩); have hz4 := Blk.keep (F := (· = g)) (w' := w4) (g := w.heap.size) (t := 51) (cs := [.int .i64 0, .int .i64 0, .slice none 0 0, .slice none 0 0]) (by (repeat' (first | (with_reducible assumption) | (with_reducible refine Blk.top _ (by first | rfl | omega | (simp; done) | (simp; omega)) rfl) | (with_reducible refine Blk.alloc ?_ _) | (with_reducible refine Blk.drew ?_) | (with_reducible refine Blk.drewN ?_ _) | (with_reducible refine Blk.far ?_ (by first | omega | (simp; done) | (simp; omega)) _)))) hk4 (by omega); have hx4 := Blk.keep (F := (· = g)) (w' := w4) (g := w2.heap.size) (t := 51) (cs := [.int .i64 5, .int .i64 (Q.2 - 1), .slice none 0 0, .slice none 0 0]) (hx3.set_ 1 _) hk4 (by omega); have k4 : Keep (· = g) w w4 := ((k3.setNew (by omega) _ _).trans hk4 (fun _ _ e => e)))
    | fail "no arm")
  have k4s := k4.size
  go_loopw [8] (fun i wr => ∃ (k : Nat) (B : Option Addr) (d : Nat), k ≤ m ∧ i = .int .i64 (k : Nat) ∧ Blk wr w2.heap.size 51 [.int .i64 5, .int .i64 (Q.2 - 1), .slice none 0 0, .slice B k d] ∧ OB wr w.heap.size 5 B k d (C U.1 k).2 ∧ RLotAt wr g (C U.1 k).1 ∧ Blk wr w.heap.size 51 [.int .i64 0, .int .i64 0, .slice none 0 0, .slice none 0 0] ∧ Keep (· = g) w wr) (fun i _ => m - (intOf i).toNat)
  case atStart => exact ⟨0, none, 0, by omega, rfl, hx4, by rw [hC0]; exact Ow.nil _ _ _ _, by rw [hC0]; exact hl4, hz4, k4⟩
  case round =>
    obtain ⟨k, B, d, hk, rfl, hx, hown, hl, hz, hkeep⟩ := hrel
    have hsz := hkeep.size
    have c3 : wr.cell? ⟨w2.heap.size, 3, none⟩ = some (.slice B k d) := hx.cell 3
    have f3 := hx.frozen 3
    have hxl := hx.lt
    by_cases hlt : k < m
    · have hBx := hown.ne_ hx (by decide)
      have hBg := hown.ne_ hl (by decide)
      have hBz := hown.ne_ hz (by decide)
      have hc0 := hown.lt
      have hb256 := hbelow (C U.1 k).1 256 wr.drew hl
      have hS := Lib.hid (hC1 U.1 k)
      have r1 := hpos (C U.1 k).1 256
      have r2 := hltn (C U.1 k).1 256 (by decide)
      have hl' := Lib.hid hl
      clear hl
      generalize C U.1 k = S at *
      generalize L S.1 256 = D at *
      have hbv : Hid (bv (UInt8.ofNat D.2.toNat) = .int .u8 D.2) := by
        show _ = _
        rw [bv_ofNat (by omega)]; congr 1; omega
      have hw8 : IntKind.u8.wrap D.2 = D.2 := by simp [IntKind.wrap, IntKind.bits, IntKind.signed]; omega
      go_wp2
      go_region_law (first
        | (go_simp; (go_at_call 28; (with_reducible refine (hb256).mono ?_); rintro e w5 ⟨rfl, hl5, hk5⟩); have hx5 := Blk.keep (F := (· = g)) (w' := w5) hx.drew hk5 (by omega); have hz5 := Blk.keep (F := (· = g)) (w' := w5) hz.drew hk5 (by omega); have ho5 := hown.drew'.keep hk5 (fun b e e2 => hBg (by rw [e, e2])); have s5 : wr.heap.size ≤ w5.heap.size := hk5.size; have lx5 := hx5.lt; have c35 : w5.cell? ⟨w2.heap.size, 3, none⟩ = some (.slice B k d) := hx5.cell 3)
        | (refine step_app rfl rfl elemU8 bv_one (s := .tmp 43) (N := k + 1) (L := S.2 ++ [UInt8.ofNat D.2.toNat]) rfl (ho5.below (b := w5.heap.size) (by (repeat' (first | (with_reducible exact Below.refl _ _) | (with_reducible assumption) | (with_reducible refine Below.drew ?_) | (with_reducible refine below_drewN ?_ _) | (with_reducible refine Below.alloc ?_ ?_ _) | (with_reducible refine Below.setCell ?_ ?_ _) | omega | (simp; done) | (simp; omega)))) (Nat.le_refl _)) rfl (k := [UInt8.ofNat D.2.toNat]) (Rd.of_block (l := [UInt8.ofNat D.2.toNat]) (heap_top _ _ (by simp)) (congrArg (fun x => [x]) hbv.out.symm)) rfl rfl (by unfold maxLen; omega) (by omega) (by first | omega | (simp; done) | (simp; omega)) ?_; intro A6 c6 w6 hown6 hg6 hat6 hb6; have hx6 : Blk w6 w2.heap.size 51 [.int .i64 5, .int .i64 (Q.2 - 1), .slice none 0 0, .slice B k d] := Blk.grown (by (repeat' (first | (with_reducible assumption) | (with_reducible refine Blk.top _ (by first | rfl | omega | (simp; done) | (simp; omega)) rfl) | (with_reducible refine Blk.alloc ?_ _) | (with_reducible refine Blk.drew ?_) | (with_reducible refine Blk.drewN ?_ _) | (with_reducible refine Blk.far ?_ (by first | omega | (simp; done) | (simp; omega)) _)))) hg6 hBx; have c36 : w6.cell? ⟨w2.heap.size, 3, none⟩ = some (.slice B k d) := hx6.cell 3; have f36 := hx6.frozen 3; have hl6 : RLotAt w6 g D.1 := Blk.grown (Blk.alloc hl5 _) hg6 hBg; have hz6 : Blk w6 w.heap.size 51 [.int .i64 0, .int .i64 0, .slice none 0 0, .slice none 0 0] := Blk.grown (Blk.alloc hz5 _) hg6 hBz)
        | fail "no arm")
      all_goals
        go_wp2
        go_roundw
        case rel =>
          have kk1 : Keep (· = g) w w5 := hkeep.trans (G := (· = g)) (Keep.of_drew hk5) (fun x _ e => e)
          have kk2 := (kk1.alloc (.cells #[.int .u8 D.2] 5)).trans (G := fun x => B.map (·.block) = some x) (Keep.of_grown hg6 (fun x e => e)) (fun x hx e => by have := (hc0 _ e).1; omega)
          exact ⟨k + 1, A6, c6, by omega, by go_num, hx6.set_ 3 _, by rw [hS.out]; exact hown6.far (hown6.ne_ hx6 (by decide)) 3 _, by rw [hS.out]; exact RLotAt.setFar hl6 (by omega) 3 _, hz6.far (p := ⟨w2.heap.size, 3, none⟩) (show w.heap.size ≠ w2.heap.size by omega) _, kk2.setNew (by omega) 3 _⟩
        case measure => simp [intOf]; omega
    · have hk9 : k = m := by omega
      subst hk9
      obtain ⟨z0, z1, z2, z3⟩ := blk4 hz
      obtain ⟨x0, x1, x2, x3⟩ := blk4 hx
      have fz := hz.frozen
      have hzl := hz.lt
      go_wp2
      refine bodyPost_ret (v := mkId (.agg #[.int .i64 5, .int .i64 (Q.2 - 1), .slice none 0 0, .slice B k d])) (by simp [results, Try.results33, go_sem , mkId, z0, z1, z2, z3]) rfl ?_
      exact ⟨none, 0, 0, B, k, d, rfl, Ow.nil _ _ _ _, hown.set4 (hown.ne_ hz (by decide)) _ _ _ _, Blk.set4far hl (by omega) _ _ _ _, hkeep.set4 (by omega) _ _ _ _⟩
theorem refevent_any (g : Nat) (s : UInt64) (A : Option Addr) (n c : Nat) (ts : List Int) (w : World) (ht : RI w A n ts) (h : RLotAt w g s) (hr : rightB ts = true) (hAg : A.map (·.block) ≠ some g) :
    Calls Try.prog 33 #[.pointer (some ⟨g, 0, none⟩), .slice A n c] w (EvEnd RLotAt w g (evD ts s) mkId) :=
  refevent_gen lotB chD rowD g s A n c ts w ht h hr hAg (fun s k w h => refbelow_any g s k w h) (fun s w h1 h2 => refrow_any g s A n c ts w h1 h2 hr hAg) (fun _ => rfl) (fun _ _ => rfl) lotB_pos lotB_below
end Go.Proofs.Ytkhihgilodhjfaa
