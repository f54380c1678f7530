/- The walk of LotEvents: any events by lot are the document's, right, and of rows that fit; the first of more are the same. -/
import Derived.Test.YtkhihgilodhjfaaLotG
import Derived.Test.YtkhihgilodhjfaaFrame
import Derived.Test.YtkhihgilodhjfaaRowA
namespace Go.Proofs.Ytkhihgilodhjfaa.lotEvents
open Go.ChangeShapes Go.WideShapes Go.ChangeAt Go.RowKit
set_option linter.unusedVariables false
set_option linter.unusedSimpArgs false

theorem evD_fits (ts : List Int) (s : UInt64) (hr : rightB ts = true) (hk : (evD ts s).2.kind = 1) : fitsB ts (evD ts s).2.row = true := by
  have hG : ∀ (L : UInt64 → Int → UInt64 × Int) (C : UInt64 → Nat → UInt64 × List UInt8) (R : List Int → UInt64 → UInt64 × List Int), (∀ s, fitsB ts (R ts s).2 = true) → (evG L C R ts s).2.kind = 1 → fitsB ts (evG L C R ts s).2.row = true := by
    intro L C R h
    unfold evG
    split
    · intro _; exact h _
    split
    · intro h; simp at h
    split
    · intro h; simp at h
    split
    · intro h; simp at h
    · intro h; simp at h
  refine hG lotB chD rowD (fun s => ?_) hk
  obtain ⟨h1, h2⟩ := rowD_all s _ ts rfl
  exact fitsB_true.2 ⟨hr, h1, h2⟩
theorem evs_get (V : Nat → UInt64 × List EvD) (e : UInt64 → UInt64 × EvD) (h0 : (V 0).2 = []) (h1 : ∀ k, V (k + 1) = ((e (V k).1).1, (V k).2 ++ [(e (V k).1).2])) : ∀ n, (V n).2.length = n ∧ ∀ k, k < n → (V n).2[k]? = some (e (V k).1).2 := by
  intro n
  induction n with
  | zero => exact ⟨by rw [h0]; rfl, fun k h => by omega⟩
  | succ n ih =>
    obtain ⟨hl, ih⟩ := ih
    rw [h1]
    refine ⟨by simp [hl], fun k h => ?_⟩
    rcases Nat.lt_or_ge k n with h2 | h2
    · rw [List.getElem?_append_left (by omega)]; exact ih k h2
    · obtain rfl : k = n := by omega
      rw [List.getElem?_append_right (by omega), hl]; simp
theorem rd_take {w : World} {A : Option Addr} {n m : Nat} {l : List EvD} (h : EvsRd w A n l) (hm : m ≤ n) : EvsRd w A m (l.take m) := by
  refine ⟨by rw [List.length_take, h.1]; omega, fun k x hx => ?_⟩
  refine h.2 k x ?_
  have hk : k < m := by
    have := (List.getElem?_eq_some_iff.1 hx).1
    rw [List.length_take] at this; omega
  rw [← hx, List.getElem?_take, if_pos hk]

set_option maxRecDepth 100000 in
set_option maxHeartbeats 8000000 in
theorem walk_bad (seed n : Int) (A : Option Addr) (m c : Nat) (ts : List Int) (w : World) (ht : RI w A m ts) (hm : m ≤ 20) (h2 : n ≤ 20 ∨ 4096 < n) (h : rightB ts = false ∨ n < 0 ∨ 4096 < n) :
    Calls Try.prog 7 #[.int .i64 seed, .slice A m c, .int .i64 n] w fun e w' => e = .returned (.bool true) ∧ Below w.heap.size w w' := by
  have hml : m ≤ maxLen := by unfold maxLen; omega
  have hbad := fun w h9 => events_bad seed n A m c ts w h9 hml h
  have href := fun w h => refright_any A m c ts w h hml
  have hc : (rightB ts = false ∧ n ≤ 20) ∨ (rightB ts = false ∧ 4096 < n) ∨ (rightB ts = true ∧ n < 0) ∨ (rightB ts = true ∧ 4096 < n) := by
    cases hr : rightB ts with
    | false => rcases h2 with h2 | h2; exact .inl ⟨rfl, h2⟩; exact .inr (.inl ⟨rfl, h2⟩)
    | true =>
      rw [hr] at h
      rcases h with h | h | h
      · cases h
      · exact .inr (.inr (.inl ⟨rfl, h⟩))
      · exact .inr (.inr (.inr ⟨rfl, h⟩))
  clear h h2
  rcases hc with ⟨hr, h1⟩ | ⟨hr, h1⟩ | ⟨hr, h1⟩ | ⟨hr, h1⟩
  all_goals
    rw [hr] at href
    go_enter Try.func7, Try.ntmps7
    go_wp2_with (first
      | ((go_at_call 23; (with_reducible refine (awake44 _).mono ?_); rintro e w1 ⟨rfl, hb1⟩); have hb1s := hb1.size)
      | ((go_at_call 34; (with_reducible refine (hbad _ (ht.below (B := w.heap.size) (by (repeat' (first | (with_reducible exact Below.refl _ _) | (with_reducible assumption) | (with_reducible refine Below.drew ?_) | (with_reducible refine below_drewN ?_ _) | (with_reducible refine Below.alloc ?_ ?_ _) | (with_reducible refine Below.setCell ?_ ?_ _) | omega | (simp; done) | (simp; omega)))) (Nat.le_refl _))).mono ?_); rintro e w2 ⟨rfl, hb2⟩); replace hb2 := below_then' (a := w) (B := w.heap.size) (by (repeat' (first | (with_reducible exact Below.refl _ _) | (with_reducible assumption) | (with_reducible refine Below.drew ?_) | (with_reducible refine below_drewN ?_ _) | (with_reducible refine Below.alloc ?_ ?_ _) | (with_reducible refine Below.setCell ?_ ?_ _) | omega | (simp; done) | (simp; omega)))) hb2 (by first | omega | (simp; done) | (simp; omega)); have hb2s := hb2.size)
      | (go_at_call 29; (with_reducible refine (href _ (ht.below (B := w.heap.size) (by (repeat' (first | (with_reducible exact Below.refl _ _) | (with_reducible assumption) | (with_reducible refine Below.drew ?_) | (with_reducible refine below_drewN ?_ _) | (with_reducible refine Below.alloc ?_ ?_ _) | (with_reducible refine Below.setCell ?_ ?_ _) | omega | (simp; done) | (simp; omega)))) (Nat.le_refl _))).mono ?_); rintro e w3 ⟨rfl, rfl⟩)
      | fail "no arm")
    go_ret
    exact ⟨rfl, hb2⟩
theorem walk_big (seed n : Int) (A : Option Addr) (m c : Nat) (w : World) (hm : m ≤ 9223372036854775807) (h : 20 < m ∨ (m ≤ 20 ∧ 20 < n ∧ n ≤ 4096)) :
    Calls Try.prog 7 #[.int .i64 seed, .slice A m c, .int .i64 n] w fun e w' => e = .returned (.bool true) ∧ Below w.heap.size w w' := by
  rcases h with h | ⟨h1, h2, h3⟩
  all_goals
    go_enter Try.func7, Try.ntmps7
    go_wp2_with (go_at_call 23; (with_reducible refine (awake44 _).mono ?_); rintro e w1 ⟨rfl, hb1⟩)
    go_ret
    exact ⟨rfl, hb1⟩
set_option maxRecDepth 100000 in
set_option maxHeartbeats 8000000 in
theorem walk_gen (E : List Int → UInt64 → UInt64 × EvD) (V : Nat → UInt64 × List EvD) (seed : Int) (n : Nat) (A : Option Addr) (m c : Nat) (ts : List Int) (w : World) (ht : RI w A m ts) (hm : m ≤ 20) (hn : n ≤ 20) (hr : rightB ts = true) (hsg : sg (V 0).1.toNat = seed)
    (hes : ∀ w, RI w A m ts → Calls Try.prog 34 #[.int .i64 seed, .slice A m c, .int .i64 (n : Int)] w fun e w' => ∃ B d, e = .returned (.tuple #[.slice B n d, .int .i64 0]) ∧ EvsAt w' w.heap.size B n d (V n).2 ∧ Below w.heap.size w w')
    (hes1 : ∀ w, RI w A m ts → Calls Try.prog 34 #[.int .i64 seed, .slice A m c, .int .i64 ((n : Int) + 1)] w fun e w' => ∃ B d, e = .returned (.tuple #[.slice B (n + 1) d, .int .i64 0]) ∧ EvsAt w' w.heap.size B (n + 1) d (V (n + 1)).2 ∧ Below w.heap.size w w')
    (hrev : ∀ (g : Nat) (s : UInt64) (w : World), RI w A m ts → RLotAt w g s → A.map (·.block) ≠ some g → Calls Try.prog 33 #[.pointer (some ⟨g, 0, none⟩), .slice A m c] w (EvEnd RLotAt w g (E ts s) mkId))
    (hV : ∀ k, (V (k + 1)).1 = (E ts (V k).1).1) (hget : ∀ k, k < n → (V n).2[k]? = some (E ts (V k).1).2) (htake : (V (n + 1)).2.take n = (V n).2) (hok : ∀ s, EvOk (E ts s).2) (hfit : ∀ s, (E ts s).2.kind = 1 → fitsB ts (E ts s).2.row = true) :
    Calls Try.prog 7 #[.int .i64 seed, .slice A m c, .int .i64 (n : Int)] w fun e w' => e = .returned (.bool true) ∧ Below w.heap.size w w' := by
  have hml : m ≤ maxLen := by unfold maxLen; omega
  have href := fun w h => refright_any A m c ts w h hml
  rw [hr] at href
  obtain ⟨_, hr1, hr8⟩ := rightB_true.1 hr
  rw [ht.1] at hr1 hr8
  have hA : ∀ g, w.heap.size ≤ g → A.map (·.block) ≠ some g := fun g hg e => by
    obtain ⟨b, o, rfl, hb, _⟩ := ht.at_ hr1
    simp only [Option.map_some, Option.some.injEq] at e
    omega
  have hcut := fun B d (h : n ≤ d) W => run_cut_to (P := Try.prog) elemEv B (n + 1) d n h W
  go_enter Try.func7, Try.ntmps7
  go_wp2_with (first
    | ((go_at_call 23; (with_reducible refine (awake44 _).mono ?_); rintro e w1 ⟨rfl, hb1⟩); have hb1s := hb1.size)
    | ((go_at_call 34; (with_reducible refine (hes _ (ht.below (B := w.heap.size) (by (repeat' (first | (with_reducible exact Below.refl _ _) | (with_reducible assumption) | (with_reducible refine Below.drew ?_) | (with_reducible refine below_drewN ?_ _) | (with_reducible refine Below.alloc ?_ ?_ _) | (with_reducible refine Below.setCell ?_ ?_ _) | omega | (simp; done) | (simp; omega)))) (Nat.le_refl _))).mono ?_); rintro e w2 ⟨B2, d2, rfl, ev2, hb2⟩); have rd2 := ev2.rd; have hb2r := hb2; replace hb2 := below_then' (a := w) (B := w.heap.size) (by (repeat' (first | (with_reducible exact Below.refl _ _) | (with_reducible assumption) | (with_reducible refine Below.drew ?_) | (with_reducible refine below_drewN ?_ _) | (with_reducible refine Below.alloc ?_ ?_ _) | (with_reducible refine Below.setCell ?_ ?_ _) | omega | (simp; done) | (simp; omega)))) hb2 (by first | omega | (simp; done) | (simp; omega)); have hb2s := hb2.size)
    | ((go_at_call 34; (with_reducible refine (hes1 _ (ht.below (B := w.heap.size) (by (repeat' (first | (with_reducible exact Below.refl _ _) | (with_reducible assumption) | (with_reducible refine Below.drew ?_) | (with_reducible refine below_drewN ?_ _) | (with_reducible refine Below.alloc ?_ ?_ _) | (with_reducible refine Below.setCell ?_ ?_ _) | omega | (simp; done) | (simp; omega)))) (Nat.le_refl _))).mono ?_); rintro e w4 ⟨B4, d4, rfl, ev4, hb4⟩); have rd4 := rd_take ev4.rd (Nat.le_succ n); have rd2a := rd2.below hb4 (Nat.le_refl _); have hcd : n ≤ d4 := (by obtain ⟨rs, ho, _⟩ := ev4; have := ho.cap; omega); have hcut4 := hcut B4 d4 hcd; replace hb4 := below_then' (a := w) (B := w.heap.size) (by (repeat' (first | (with_reducible exact Below.refl _ _) | (with_reducible assumption) | (with_reducible refine Below.drew ?_) | (with_reducible refine below_drewN ?_ _) | (with_reducible refine Below.alloc ?_ ?_ _) | (with_reducible refine Below.setCell ?_ ?_ _) | omega | (simp; done) | (simp; omega)))) hb4 (by first | omega | (simp; done) | (simp; omega)); have hb4s := hb4.size)
    | (go_at_call 29; (with_reducible refine (href _ (ht.below (B := w.heap.size) (by (repeat' (first | (with_reducible exact Below.refl _ _) | (with_reducible assumption) | (with_reducible refine Below.drew ?_) | (with_reducible refine below_drewN ?_ _) | (with_reducible refine Below.alloc ?_ ?_ _) | (with_reducible refine Below.setCell ?_ ?_ _) | omega | (simp; done) | (simp; omega)))) (Nat.le_refl _))).mono ?_); rintro e w3 ⟨rfl, rfl⟩)
    | ((go_at_call 30; (with_reducible refine (same39_any _ _ n _ _ (V n).2 _ rd2a (htake ▸ rd4) (by unfold maxLen; omega)).mono ?_); rintro e w5 ⟨rfl, q5, rfl⟩))
    | fail "no arm")
  have hr0 : RLotAt ((w4.drewN q5).alloc (.cells #[.int .i64 seed] 59)) w4.heap.size (V 0).1 := Blk.top _ rfl (by rw [hsg])
  have hb0 : Below w4.heap.size w4 ((w4.drewN q5).alloc (.cells #[.int .i64 seed] 59)) := (by (repeat' (first | (with_reducible exact Below.refl _ _) | (with_reducible assumption) | (with_reducible refine Below.drew ?_) | (with_reducible refine below_drewN ?_ _) | (with_reducible refine Below.alloc ?_ ?_ _) | (with_reducible refine Below.setCell ?_ ?_ _) | omega | (simp; done) | (simp; omega))))
  have hAl := hA _ hb4s
  have ht4 := ht.below hb4 (Nat.le_refl _)
  clear hes hes1 rd2 ev2 rd4 ev4 hcut hcut4 hb1 hb2 hb2s hb1s hb2r href
  go_loopw [92] (fun i wr => ∃ k : Nat, k ≤ n ∧ i = .int .i64 (k : Nat) ∧ RLotAt wr w4.heap.size (V k).1 ∧ Below w4.heap.size w4 wr) (fun i _ => n - (intOf i).toNat)
  case atStart => exact ⟨0, by omega, rfl, hr0, hb0⟩
  case round =>
    clear hr0 hb0
    obtain ⟨k, hk, rfl, hrl, hbl⟩ := hrel
    have hbls := hbl.size
    by_cases hlt : k < n
    · obtain ⟨b, o, B1, n1, c1, C1, m1, f1, rfl, hb, e0, e1, e2, e3, r1, r2, mm1, mm2⟩ := rd2a.2 k _ (hget k hlt)
      replace e0 := (hbl.cell (p := ⟨b, o + k * 4, none⟩) hb).trans e0
      replace e1 := (hbl.cell (p := ⟨b, o + k * 4 + 1, none⟩) hb).trans e1
      replace e2 := (hbl.cell (p := ⟨b, o + k * 4 + 2, none⟩) hb).trans e2
      replace e3 := (hbl.cell (p := ⟨b, o + k * 4 + 3, none⟩) hb).trans e3
      have hVk := Lib.hid (hV k)
      have hokk := hok (V k).1
      have hfitk := hfit (V k).1
      have hrevk := fun w h h' => hrev w4.heap.size (V k).1 w h h' hAl
      have hlr := r1.1
      have hlc := r2.1
      clear hV hok hfit hrev hget htake rd2a
      generalize E ts (V k).1 = XX at *
      obtain ⟨s', X⟩ := XX
      simp only at e0 e1 e2 e3 r1 r2 hVk hokk hfitk hlr hlc
      generalize (V k).1 = s at *
      have hf : X.kind = 1 → ∀ w, RI w A m ts → RI w B1 n1 X.row → Calls Try.prog 36 #[.slice A m c, .slice B1 n1 c1] w fun e w' => e = .returned (.bool true) ∧ w = w' := fun h w h1 h2 => by
        have := reffits_any A B1 m n1 c c1 ts X.row w h1 h2 hml mm1
        rwa [hfitk h] at this
      clear hfitk
      go_wp2
      refine code_world (fun W => RLotAt W w4.heap.size s ∧ Blk W wr.heap.size 51 [.int .i64 X.kind, .int .i64 X.num, .slice B1 n1 c1, .slice C1 m1 f1] ∧ Below w4.heap.size w4 W ∧ wr.heap.size < W.heap.size) ⟨hrl.alloc _, (by (repeat' (first | (with_reducible assumption) | (with_reducible refine Blk.top _ (by first | rfl | omega | (simp; done) | (simp; omega)) rfl) | (with_reducible refine Blk.alloc ?_ _) | (with_reducible refine Blk.drew ?_) | (with_reducible refine Blk.drewN ?_ _) | (with_reducible refine Blk.far ?_ (by first | omega | (simp; done) | (simp; omega)) _)))), (by (repeat' (first | (with_reducible exact Below.refl _ _) | (with_reducible assumption) | (with_reducible refine Below.drew ?_) | (with_reducible refine below_drewN ?_ _) | (with_reducible refine Below.alloc ?_ ?_ _) | (with_reducible refine Below.setCell ?_ ?_ _) | omega | (simp; done) | (simp; omega)))), by simp⟩ ?_
      generalize wr.heap.size = gx at *
      clear e0 e1 e2 e3 hrl hbl
      intro W ⟨hr, hx, hb, hxs⟩
      have hbs := hb.size
      have nxl : ¬ (gx = w4.heap.size) := (hx.ne_ hr (by decide))
      have hgW : ¬ (W.heap.size = w4.heap.size) := by have := hr.lt; omega
      have hcs : X.kind = 1 ∨ X.kind ≠ 1 := by omega
      have hokH := Lib.hid hokk
      clear hokk
      rcases hcs with hk1 | hk1
      · have hf' := hf hk1
        have t1 : (X.kind == 1) = true := by rw [hk1]; rfl
        clear hf hk1
        go_region_held3 (fun w' => w'.cell? ⟨gx, 0, none⟩ = some (.int .i64 X.kind) ∧ w'.cell? ⟨gx, 1, none⟩ = some (.int .i64 X.num) ∧ w'.cell? ⟨gx, 2, none⟩ = some (.slice B1 n1 c1) ∧ w'.cell? ⟨gx, 3, none⟩ = some (.slice C1 m1 f1)) (exact blk4 (t := 51) (by (repeat' (first | (with_reducible assumption) | (with_reducible refine Blk.top _ (by first | rfl | omega | (simp; done) | (simp; omega)) rfl) | (with_reducible refine Blk.alloc ?_ _) | (with_reducible refine Blk.drew ?_) | (with_reducible refine Blk.drewN ?_ _) | (with_reducible refine Blk.far ?_ (by first | omega | (simp; done) | (simp; omega)) _))))) (first
          | ((go_at_call 33; (with_reducible refine (hrevk _ (ht4.below (B := w4.heap.size) (by (repeat' (first | (with_reducible exact Below.refl _ _) | (with_reducible assumption) | (with_reducible refine Below.drew ?_) | (with_reducible refine below_drewN ?_ _) | (with_reducible refine Below.alloc ?_ ?_ _) | (with_reducible refine Below.setCell ?_ ?_ _) | omega | (simp; done) | (simp; omega)))) (Nat.le_refl _)) (by (repeat' (first | (with_reducible assumption) | (with_reducible refine RLotAt.drew ?_) | (with_reducible refine RLotAt.drewN ?_ _) | (with_reducible refine RLotAt.alloc ?_ _) | (with_reducible refine LotAt.drew ?_) | (with_reducible refine LotAt.drewN ?_ _) | (with_reducible refine LotAt.alloc ?_ _))))).mono ?_); rintro e w11 ⟨B11, n11, d11, C11, m11, f11, rfl, o11, p11, hr11, hk11⟩); have k11 : Keep (· = w4.heap.size) W w11 := (by first | exact Keep.of_drew hk11 | exact (((Keep.refl _ _).alloc _).trans (Keep.of_drew hk11) (fun _ _ e => e)) | exact Keep.of_drew (((Keep.refl _ _).alloc _).trans hk11 (fun _ _ e => e))); have hx11 := hx.keep k11 nxl; have hb11 : Below w4.heap.size w4 w11 := hb.trans (k11.below (fun x e => (by omega)) hbs); have hb11s := hb11.size; have mB11 := o11.cap; have mC11 := p11.cap; (try (have hq11 : Blk w11 W.heap.size 51 [.int .i64 X.kind, .int .i64 X.num, .slice B1 n1 c1, .slice C1 m1 f1] := Blk.keep (F := (· = w4.heap.size)) (Blk.drew (Blk.top _ rfl rfl)) hk11 hgW)))
          | ((go_at_call 30; (with_reducible refine (same39_any _ _ 1 1 1 [X] _ (evs_one (t := 51) (B1 := B1) (n1 := n1) (c1 := c1) (B2 := C1) (n2 := m1) (c2 := f1) (by (repeat' (first | (with_reducible assumption) | (with_reducible refine Blk.top _ (by first | rfl | omega | (simp; done) | (simp; omega)) rfl) | (with_reducible refine Blk.alloc ?_ _) | (with_reducible refine Blk.drew ?_) | (with_reducible refine Blk.drewN ?_ _) | (with_reducible refine Blk.far ?_ (by first | omega | (simp; done) | (simp; omega)) _)))) (r1.below (B := w4.heap.size) (by (repeat' (first | (with_reducible exact Below.refl _ _) | (with_reducible assumption) | (with_reducible refine Below.drew ?_) | (with_reducible refine below_drewN ?_ _) | (with_reducible refine Below.alloc ?_ ?_ _) | (with_reducible refine Below.setCell ?_ ?_ _) | omega | (simp; done) | (simp; omega)))) (Nat.le_refl _)) (r2.below (B := w4.heap.size) (by (repeat' (first | (with_reducible exact Below.refl _ _) | (with_reducible assumption) | (with_reducible refine Below.drew ?_) | (with_reducible refine below_drewN ?_ _) | (with_reducible refine Below.alloc ?_ ?_ _) | (with_reducible refine Below.setCell ?_ ?_ _) | omega | (simp; done) | (simp; omega)))) (Nat.le_refl _)) mm1 mm2) (evs_one (t := 51) (B1 := B11) (n1 := n11) (c1 := d11) (B2 := C11) (n2 := m11) (c2 := f11) (by (repeat' (first | (with_reducible assumption) | (with_reducible refine Blk.top _ (by first | rfl | omega | (simp; done) | (simp; omega)) rfl) | (with_reducible refine Blk.alloc ?_ _) | (with_reducible refine Blk.drew ?_) | (with_reducible refine Blk.drewN ?_ _) | (with_reducible refine Blk.far ?_ (by first | omega | (simp; done) | (simp; omega)) _)))) (o11.rd.ri.below (B := w11.heap.size) (by (repeat' (first | (with_reducible exact Below.refl _ _) | (with_reducible assumption) | (with_reducible refine Below.drew ?_) | (with_reducible refine below_drewN ?_ _) | (with_reducible refine Below.alloc ?_ ?_ _) | (with_reducible refine Below.setCell ?_ ?_ _) | omega | (simp; done) | (simp; omega)))) (Nat.le_refl _)) (p11.rd.rb.below (B := w11.heap.size) (by (repeat' (first | (with_reducible exact Below.refl _ _) | (with_reducible assumption) | (with_reducible refine Below.drew ?_) | (with_reducible refine below_drewN ?_ _) | (with_reducible refine Below.alloc ?_ ?_ _) | (with_reducible refine Below.setCell ?_ ?_ _) | omega | (simp; done) | (simp; omega)))) (Nat.le_refl _)) (by omega) (by omega)) (by decide)).mono ?_); rintro e w12 ⟨rfl, q12, rfl⟩))
          | ((go_at_call 35; (with_reducible refine (right39_any X B1 C1 n1 c1 m1 f1 _ hokH.out hlr hlc).mono ?_); rintro e w13 ⟨rfl, hb13⟩); have hr13 : RLotAt w13 w4.heap.size s' := RLotAt.keep (by (repeat' (first | (with_reducible assumption) | (with_reducible refine RLotAt.drew ?_) | (with_reducible refine RLotAt.drewN ?_ _) | (with_reducible refine RLotAt.alloc ?_ _) | (with_reducible refine LotAt.drew ?_) | (with_reducible refine LotAt.drewN ?_ _) | (with_reducible refine LotAt.alloc ?_ _)))) (Keep.of_below (F := fun _ => False) hb13) (fun e => e); have hx13 : Blk w13 gx 51 [.int .i64 X.kind, .int .i64 X.num, .slice B1 n1 c1, .slice C1 m1 f1] := Blk.keep (by (repeat' (first | (with_reducible assumption) | (with_reducible refine Blk.top _ (by first | rfl | omega | (simp; done) | (simp; omega)) rfl) | (with_reducible refine Blk.alloc ?_ _) | (with_reducible refine Blk.drew ?_) | (with_reducible refine Blk.drewN ?_ _) | (with_reducible refine Blk.far ?_ (by first | omega | (simp; done) | (simp; omega)) _)))) (Keep.of_below (F := fun _ => False) hb13) (fun e => e); replace hb13 : Below w4.heap.size w4 w13 := below_then' (a := w4) (B := w4.heap.size) (by (repeat' (first | (with_reducible exact Below.refl _ _) | (with_reducible assumption) | (with_reducible refine Below.drew ?_) | (with_reducible refine below_drewN ?_ _) | (with_reducible refine Below.alloc ?_ ?_ _) | (with_reducible refine Below.setCell ?_ ?_ _) | omega | (simp; done) | (simp; omega)))) hb13 (by first | omega | (simp; done) | (simp; omega)))
          | (go_at_call 36; (with_reducible refine (hf' _ (ht4.below (B := w4.heap.size) (by (repeat' (first | (with_reducible exact Below.refl _ _) | (with_reducible assumption) | (with_reducible refine Below.drew ?_) | (with_reducible refine below_drewN ?_ _) | (with_reducible refine Below.alloc ?_ ?_ _) | (with_reducible refine Below.setCell ?_ ?_ _) | omega | (simp; done) | (simp; omega)))) (Nat.le_refl _)) (r1.below (B := w4.heap.size) (by (repeat' (first | (with_reducible exact Below.refl _ _) | (with_reducible assumption) | (with_reducible refine Below.drew ?_) | (with_reducible refine below_drewN ?_ _) | (with_reducible refine Below.alloc ?_ ?_ _) | (with_reducible refine Below.setCell ?_ ?_ _) | omega | (simp; done) | (simp; omega)))) (Nat.le_refl _))).mono ?_); rintro e w14 ⟨rfl, rfl⟩)
          | fail "no arm")
        all_goals
          go_wp2
          go_roundw
          case rel => exact ⟨k + 1, by omega, by go_num, by rw [hVk.out]; exact hr13, hb13⟩
          case measure => simp [intOf]; omega
      · have t1 : (X.kind == 1) = false := by rw [beq_eq_false_iff_ne]; exact hk1
        clear hf hk1
        obtain ⟨x0, x1, x2, x3⟩ := blk4 hx
        first
          | (go_region_law (first
                | (go_simp; (go_at_call 33; (with_reducible refine (hrevk _ (ht4.below (B := w4.heap.size) (by (repeat' (first | (with_reducible exact Below.refl _ _) | (with_reducible assumption) | (with_reducible refine Below.drew ?_) | (with_reducible refine below_drewN ?_ _) | (with_reducible refine Below.alloc ?_ ?_ _) | (with_reducible refine Below.setCell ?_ ?_ _) | omega | (simp; done) | (simp; omega)))) (Nat.le_refl _)) (by (repeat' (first | (with_reducible assumption) | (with_reducible refine RLotAt.drew ?_) | (with_reducible refine RLotAt.drewN ?_ _) | (with_reducible refine RLotAt.alloc ?_ _) | (with_reducible refine LotAt.drew ?_) | (with_reducible refine LotAt.drewN ?_ _) | (with_reducible refine LotAt.alloc ?_ _))))).mono ?_); rintro e w11 ⟨B11, n11, d11, C11, m11, f11, rfl, o11, p11, hr11, hk11⟩); have k11 : Keep (· = w4.heap.size) W w11 := (by first | exact Keep.of_drew hk11 | exact (((Keep.refl _ _).alloc _).trans (Keep.of_drew hk11) (fun _ _ e => e)) | exact Keep.of_drew (((Keep.refl _ _).alloc _).trans hk11 (fun _ _ e => e))); have hx11 := hx.keep k11 nxl; have hb11 : Below w4.heap.size w4 w11 := hb.trans (k11.below (fun x e => (by omega)) hbs); have hb11s := hb11.size; have mB11 := o11.cap; have mC11 := p11.cap; obtain ⟨x110, x111, x112, x113⟩ := blk4 hx11; have lx11 := hx11.lt; (try (have hq11 : Blk w11 W.heap.size 51 [.int .i64 X.kind, .int .i64 X.num, .slice B1 n1 c1, .slice C1 m1 f1] := Blk.keep (F := (· = w4.heap.size)) (Blk.drew (Blk.top _ rfl rfl)) hk11 hgW)))
                | (go_simp; (go_at_call 30; (with_reducible refine (same39_any _ _ 1 1 1 [X] _ (evs_one (t := 51) (B1 := B1) (n1 := n1) (c1 := c1) (B2 := C1) (n2 := m1) (c2 := f1) (by (repeat' (first | (with_reducible assumption) | (with_reducible refine Blk.top _ (by first | rfl | omega | (simp; done) | (simp; omega)) rfl) | (with_reducible refine Blk.alloc ?_ _) | (with_reducible refine Blk.drew ?_) | (with_reducible refine Blk.drewN ?_ _) | (with_reducible refine Blk.far ?_ (by first | omega | (simp; done) | (simp; omega)) _)))) (r1.below (B := w4.heap.size) (by (repeat' (first | (with_reducible exact Below.refl _ _) | (with_reducible assumption) | (with_reducible refine Below.drew ?_) | (with_reducible refine below_drewN ?_ _) | (with_reducible refine Below.alloc ?_ ?_ _) | (with_reducible refine Below.setCell ?_ ?_ _) | omega | (simp; done) | (simp; omega)))) (Nat.le_refl _)) (r2.below (B := w4.heap.size) (by (repeat' (first | (with_reducible exact Below.refl _ _) | (with_reducible assumption) | (with_reducible refine Below.drew ?_) | (with_reducible refine below_drewN ?_ _) | (with_reducible refine Below.alloc ?_ ?_ _) | (with_reducible refine Below.setCell ?_ ?_ _) | omega | (simp; done) | (simp; omega)))) (Nat.le_refl _)) mm1 mm2) (evs_one (t := 51) (B1 := B11) (n1 := n11) (c1 := d11) (B2 := C11) (n2 := m11) (c2 := f11) (by (repeat' (first | (with_reducible assumption) | (with_reducible refine Blk.top _ (by first | rfl | omega | (simp; done) | (simp; omega)) rfl) | (with_reducible refine Blk.alloc ?_ _) | (with_reducible refine Blk.drew ?_) | (with_reducible refine Blk.drewN ?_ _) | (with_reducible refine Blk.far ?_ (by first | omega | (simp; done) | (simp; omega)) _)))) (o11.rd.ri.below (B := w11.heap.size) (by (repeat' (first | (with_reducible exact Below.refl _ _) | (with_reducible assumption) | (with_reducible refine Below.drew ?_) | (with_reducible refine below_drewN ?_ _) | (with_reducible refine Below.alloc ?_ ?_ _) | (with_reducible refine Below.setCell ?_ ?_ _) | omega | (simp; done) | (simp; omega)))) (Nat.le_refl _)) (p11.rd.rb.below (B := w11.heap.size) (by (repeat' (first | (with_reducible exact Below.refl _ _) | (with_reducible assumption) | (with_reducible refine Below.drew ?_) | (with_reducible refine below_drewN ?_ _) | (with_reducible refine Below.alloc ?_ ?_ _) | (with_reducible refine Below.setCell ?_ ?_ _) | omega | (simp; done) | (simp; omega)))) (Nat.le_refl _)) (by omega) (by omega)) (by decide)).mono ?_); rintro e w12 ⟨rfl, q12, rfl⟩))
                | (go_simp; (go_at_call 35; (with_reducible refine (right39_any X B1 C1 n1 c1 m1 f1 _ hokH.out hlr hlc).mono ?_); rintro e w13 ⟨rfl, hb13⟩); have hr13 : RLotAt w13 w4.heap.size s' := RLotAt.keep (by (repeat' (first | (with_reducible assumption) | (with_reducible refine RLotAt.drew ?_) | (with_reducible refine RLotAt.drewN ?_ _) | (with_reducible refine RLotAt.alloc ?_ _) | (with_reducible refine LotAt.drew ?_) | (with_reducible refine LotAt.drewN ?_ _) | (with_reducible refine LotAt.alloc ?_ _)))) (Keep.of_below (F := fun _ => False) hb13) (fun e => e); have hx13 : Blk w13 gx 51 [.int .i64 X.kind, .int .i64 X.num, .slice B1 n1 c1, .slice C1 m1 f1] := Blk.keep (by (repeat' (first | (with_reducible assumption) | (with_reducible refine Blk.top _ (by first | rfl | omega | (simp; done) | (simp; omega)) rfl) | (with_reducible refine Blk.alloc ?_ _) | (with_reducible refine Blk.drew ?_) | (with_reducible refine Blk.drewN ?_ _) | (with_reducible refine Blk.far ?_ (by first | omega | (simp; done) | (simp; omega)) _)))) (Keep.of_below (F := fun _ => False) hb13) (fun e => e); obtain ⟨x130, x131, x132, x133⟩ := blk4 hx13; replace hb13 : Below w4.heap.size w4 w13 := below_then' (a := w4) (B := w4.heap.size) (by (repeat' (first | (with_reducible exact Below.refl _ _) | (with_reducible assumption) | (with_reducible refine Below.drew ?_) | (with_reducible refine below_drewN ?_ _) | (with_reducible refine Below.alloc ?_ ?_ _) | (with_reducible refine Below.setCell ?_ ?_ _) | omega | (simp; done) | (simp; omega)))) hb13 (by first | omega | (simp; done) | (simp; omega)))
                | fail "no arm"))
          | fail "law"
        all_goals
          go_wp2
          go_roundw
          case rel => exact ⟨k + 1, by omega, by go_num, by rw [hVk.out]; exact hr13, hb13⟩
          case measure => simp [intOf]; omega
    · go_wp2
      go_ret
      exact ⟨rfl, hb4.trans (hbl.mono hb4s)⟩
end Go.Proofs.Ytkhihgilodhjfaa.lotEvents
