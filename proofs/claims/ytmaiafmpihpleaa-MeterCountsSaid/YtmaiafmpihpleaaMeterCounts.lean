/- MeterCounts: whatever is added, taken and raised, each answer, and all counts, are the document's; a meter that is none has nothing. -/
import Derived.Test.YtmaiafmpihpleaaMeterAll
import Derived.Test.YtmaiafmpihpleaaRefMeter
import Derived.Test.YtmaiafmpihpleaaInts
import Derived.Test.YtmaiafmpihpleaaArgsDo
import Derived.Deep.RegionHeld3
namespace Go.Proofs.Ytmaiafmpihpleaa.meterCounts
open Go.ChangeShapes Go.WideShapes Go.ChangeAt Go.RowKit
set_option linter.unusedVariables false

theorem mdrew {w : World} {g : Nat} {l : List Int} (h : MeterAt w g l) : MeterAt w.drew g l := h
theorem none_kind (kind : Int) : NoKind none kind := .inr rfl
theorem walk_big (A : Option Addr) (n c : Nat) (w : World) (h : 60 < n) (hn : n ≤ maxLen) :
    Calls Try.prog 9 #[.slice A n c] w fun e w' => e = .returned (.bool true) ∧ Below w.heap.size w w' := by
  unfold maxLen at hn
  go_enter Try.func9, Try.ntmps9
  go_wp2_with (first
    | (go_at_call 22; (with_reducible refine (awake5 _).mono ?_); rintro e w1 ⟨rfl, hB1⟩)
    | (go_at_call 25; (with_reducible refine (add_no _ _ _ _ (none_kind _)).mono ?_); rintro e w2 ⟨rfl, rfl⟩)
    | (go_at_call 26; (with_reducible refine (raise_no _ _ _ _ (none_kind _)).mono ?_); rintro e w2 ⟨rfl, rfl⟩)
    | (go_at_call 24; (with_reducible refine (count_no _ _ _ (none_kind _)).mono ?_); rintro e w2 ⟨rfl, rfl⟩)
    | (go_at_call 27; (with_reducible refine (take_no _ _ _ (none_kind _)).mono ?_); rintro e w2 ⟨rfl, rfl⟩)
    | (go_at_call 28; (with_reducible refine (all_nil _).mono ?_); rintro e w2 ⟨rfl, rfl⟩))
  go_ret
  exact ⟨rfl, hB1⟩

set_option maxRecDepth 100000 in
set_option maxHeartbeats 4000000 in
theorem walk_small (A : Option Addr) (n c : Nat) (zs : List Int) (w : World) (h : n ≤ 60) (hr : Row w A (n * 3) (fun i => .int .i64 (zs.getD i 0))) :
    Calls Try.prog 9 #[.slice A n c] w fun e w' => e = .returned (.bool true) ∧ Below w.heap.size w w' := by
  go_enter Try.func9, Try.ntmps9
  go_wp2_with (first
    | (go_at_call 22; (with_reducible refine (awake5 _).mono ?_); rintro e w1 ⟨rfl, hB1⟩)
    | (go_at_call 25; (with_reducible refine (add_no _ _ _ _ (none_kind _)).mono ?_); rintro e w2 ⟨rfl, rfl⟩)
    | (go_at_call 26; (with_reducible refine (raise_no _ _ _ _ (none_kind _)).mono ?_); rintro e w2 ⟨rfl, rfl⟩)
    | (go_at_call 24; (with_reducible refine (count_no _ _ _ (none_kind _)).mono ?_); rintro e w2 ⟨rfl, rfl⟩)
    | (go_at_call 27; (with_reducible refine (take_no _ _ _ (none_kind _)).mono ?_); rintro e w2 ⟨rfl, rfl⟩)
    | (go_at_call 28; (with_reducible refine (all_nil _).mono ?_); rintro e w2 ⟨rfl, rfl⟩)
    | ((go_at_call 23; (with_reducible refine (newmeter_any _).mono ?_); rintro e w2 ⟨rfl, hm2, hB2, hs2⟩); have hlt2 : w1.heap.size < w2.heap.size := (by omega); clear hs2; replace hB2 := below_then hB1 hB2 hB1.size)
    | ((go_at_call 29; (with_reducible refine (refnew_any _).mono ?_); rintro e w3 ⟨rfl, hr3, hB3, hs3⟩); replace hm2 := hm2.below hB3 hlt2; clear hs3; replace hB3 := below_then hB2 hB3 hB2.size))
  have hB1s := hB1.size
  have hB2s := hB2.size
  generalize hgm : w1.heap.size = gm at *
  generalize hgl : w2.heap.size = gl at *
  have Hgm := Lib.hid hgm
  have Hgl := Lib.hid hgl
  clear hgm hgl
  have hne : gl ≠ gl + 1 := by omega
  have Hne := Lib.hid hne
  clear hne
  go_loopw [40] (fun i wr => ∃ (k : Nat) (l : List Int), k ≤ n ∧ i = .int .i64 (k : Nat) ∧ MeterAt wr gm l ∧ RMeterAt wr gl (gl + 1) l ∧ Below w.heap.size w wr) (fun i _ => n - (intOf i).toNat)
  case atStart => exact ⟨0, [0, 0, 0, 0, 0, 0], by omega, rfl, hm2, hr3, hB3⟩
  case round =>
    obtain ⟨k, l, hk, rfl, hm, hrm, hB⟩ := hrel
    have hltm := hm.2.lt
    have hltl := hrm.2.1.lt
    have hBs := hB.size
    by_cases hkn : k < n
    · obtain ⟨b, o, rfl, hb, hc⟩ := hr (by omega)
      have c0 : wr.cell? ⟨b, o + k * 3, none⟩ = some (.int .i64 (zs.getD (k * 3) 0)) := (hB.cell (p := ⟨b, o + k * 3, none⟩) hb).trans (hc (k * 3) (by omega))
      have c1 : wr.cell? ⟨b, o + k * 3 + 1, none⟩ = some (.int .i64 (zs.getD (k * 3 + 1) 0)) := (hB.cell (p := ⟨b, o + k * 3 + 1, none⟩) hb).trans (hc (k * 3 + 1) (by omega))
      have c2 : wr.cell? ⟨b, o + k * 3 + 2, none⟩ = some (.int .i64 (zs.getD (k * 3 + 2) 0)) := (hB.cell (p := ⟨b, o + k * 3 + 2, none⟩) hb).trans (hc (k * 3 + 2) (by omega))
      generalize zs.getD (k * 3) 0 = What at *
      generalize zs.getD (k * 3 + 1) 0 = Kind at *
      generalize zs.getD (k * 3 + 2) 0 = N at *
      clear hc
      have hD := Blk.top (t := 45) (cs := [.int .i64 What, .int .i64 Kind, .int .i64 N]) (cs' := #[.int .i64 What, .int .i64 Kind, .int .i64 N]) wr rfl rfl
      have hmD := hm.alloc (Obj.cells #[.int .i64 What, .int .i64 Kind, .int .i64 N] 45)
      have hrD := hrm.alloc (Obj.cells #[.int .i64 What, .int .i64 Kind, .int .i64 N] 45)
      have hBD : Below w.heap.size w (wr.alloc (Obj.cells #[.int .i64 What, .int .i64 Kind, .int .i64 N] 45)) := hB.alloc hBs _
      have n1 := Lib.hid (show some gm ≠ some wr.heap.size by simp; omega)
      have n2 := Lib.hid (show some gl ≠ some wr.heap.size by simp; omega)
      have n3 := Lib.hid (show some gm ≠ some gl by simp; omega)
      have n4 := Lib.hid (show some gm ≠ some (gl + 1) by simp; omega)
      have n5 := Lib.hid (show some gl ≠ some gm by simp; omega)
      have HD := Lib.hid hD
      have HmD := Lib.hid hmD
      have HrD := Lib.hid hrD
      have HBD := Lib.hid hBD
      clear hD hmD hrD hBD hm hrm hm2 hr3
      by_cases hW1 : What = 1
      · have t1 : (What == 1) = true := by rw [hW1]; rfl
        clear hW1
        go_wp2
        go_region_held3 (fun w' => w'.cell? ⟨wr.heap.size, 1, none⟩ = some (.int .i64 Kind) ∧ w'.cell? ⟨wr.heap.size, 2, none⟩ = some (.int .i64 N)) (first | go_keep | (exact ⟨HD.out.cell 1, HD.out.cell 2⟩)) (first
          | ((go_at_call 25; (with_reducible refine (add_any _ _ _ _ _ (mdrew HmD.out)).mono ?_); rintro e w5 ⟨rfl, hm5, hg5, hs5⟩); have hr5 := HrD.out.drew.grown hg5 n3.out n4.out; have hd5 := HD.out.drew.grown hg5 n1.out; have d51 : w5.cell? ⟨wr.heap.size, 1, none⟩ = some (.int .i64 Kind) := hd5.cell 1; have d52 : w5.cell? ⟨wr.heap.size, 2, none⟩ = some (.int .i64 N) := hd5.cell 2; clear hs5)
          | ((go_at_call 30; (with_reducible refine (refadd_any _ _ _ _ _ _ hr5 Hne.out).mono ?_); rintro e w6 ⟨rfl, hr6, hg6, hs6⟩); have hm6 := hm5.grown hg6 n5.out; have hd6 := hd5.grown hg6 n2.out; have d61 : w6.cell? ⟨wr.heap.size, 1, none⟩ = some (.int .i64 Kind) := hd6.cell 1; have d62 : w6.cell? ⟨wr.heap.size, 2, none⟩ = some (.int .i64 N) := hd6.cell 2; have hB6 : Below w.heap.size w w6 := below_of_only (below_of_only HBD.out.drew hg5 (by have := hBs; simp; omega) hB1s) hg6 (by have := hg5.size; have := hBs; simp at *; omega) hB2s; clear hs6)
          | ((go_at_call 30; (with_reducible refine (refadd_any _ _ _ _ _ _ HrD.out.drew Hne.out).mono ?_); rintro e w7 ⟨rfl, hr7, hg7, hs7⟩); have hm7 := (mdrew HmD.out).grown hg7 n5.out; have hd7 := HD.out.drew.grown hg7 n2.out; have d71 : w7.cell? ⟨wr.heap.size, 1, none⟩ = some (.int .i64 Kind) := hd7.cell 1; have d72 : w7.cell? ⟨wr.heap.size, 2, none⟩ = some (.int .i64 N) := hd7.cell 2; clear hs7)
          | ((go_at_call 25; (with_reducible refine (add_any _ _ _ _ _ hm7).mono ?_); rintro e w8 ⟨rfl, hm8, hg8, hs8⟩); have hr8 := hr7.grown hg8 n3.out n4.out; have hd8 := hd7.grown hg8 n1.out; have d81 : w8.cell? ⟨wr.heap.size, 1, none⟩ = some (.int .i64 Kind) := hd8.cell 1; have d82 : w8.cell? ⟨wr.heap.size, 2, none⟩ = some (.int .i64 N) := hd8.cell 2; have hB8 : Below w.heap.size w w8 := below_of_only (below_of_only HBD.out.drew hg7 (by have := hBs; simp; omega) hB2s) hg8 (by have := hg7.size; have := hBs; simp at *; omega) hB1s; clear hs8))
        all_goals
          go_wp2
          go_roundw
        all_goals first
          | exact ⟨k + 1, _, by omega, by go_num, hm6, hr6, hB6⟩
          | exact ⟨k + 1, _, by omega, by go_num, hm8, hr8, hB8⟩
          | (simp [intOf]; omega)
      have f1 : (What == 1) = false := by rw [beq_eq_false_iff_ne]; exact hW1
      clear hW1
      by_cases hW2 : What = 2
      · have t2 : (What == 2) = true := by rw [hW2]; rfl
        clear hW2
        go_wp2
        go_region_held3 (fun w' => w'.cell? ⟨wr.heap.size, 1, none⟩ = some (.int .i64 Kind) ∧ w'.cell? ⟨wr.heap.size, 2, none⟩ = some (.int .i64 N)) (first | go_keep | (exact ⟨HD.out.cell 1, HD.out.cell 2⟩)) (first
          | (go_at_call 24; (with_reducible refine (count_any _ _ _ _ (mdrew HmD.out)).mono ?_); rintro e w5 ⟨rfl, rfl⟩)
          | (go_at_call 31; (with_reducible refine (refcount_any _ _ _ _ _ HrD.out.drew).mono ?_); rintro e w5 ⟨rfl, rfl⟩))
        all_goals
          go_wp2
          go_roundw
        all_goals first
          | exact ⟨k + 1, _, by omega, by go_num, mdrew HmD.out, HrD.out.drew, HBD.out.drew⟩
          | (simp [intOf]; omega)
      have f2 : (What == 2) = false := by rw [beq_eq_false_iff_ne]; exact hW2
      clear hW2
      by_cases hW3 : What = 3
      · have t3 : (What == 3) = true := by rw [hW3]; rfl
        clear hW3
        go_wp2
        go_region_held3 (fun w' => w'.cell? ⟨wr.heap.size, 1, none⟩ = some (.int .i64 Kind) ∧ w'.cell? ⟨wr.heap.size, 2, none⟩ = some (.int .i64 N)) (first | go_keep | (exact ⟨HD.out.cell 1, HD.out.cell 2⟩)) (first
          | ((go_at_call 27; (with_reducible refine (take_any _ _ _ _ (mdrew HmD.out)).mono ?_); rintro e w5 ⟨rfl, hm5, hg5, hs5⟩); have hr5 := HrD.out.drew.grown hg5 n3.out n4.out; have hd5 := HD.out.drew.grown hg5 n1.out; have d51 : w5.cell? ⟨wr.heap.size, 1, none⟩ = some (.int .i64 Kind) := hd5.cell 1; have d52 : w5.cell? ⟨wr.heap.size, 2, none⟩ = some (.int .i64 N) := hd5.cell 2; clear hs5)
          | ((go_at_call 32; (with_reducible refine (reftake_any _ _ _ _ _ hr5 Hne.out).mono ?_); rintro e w6 ⟨rfl, hr6, hg6, hs6⟩); have hm6 := hm5.grown hg6 n5.out; have hd6 := hd5.grown hg6 n2.out; have d61 : w6.cell? ⟨wr.heap.size, 1, none⟩ = some (.int .i64 Kind) := hd6.cell 1; have d62 : w6.cell? ⟨wr.heap.size, 2, none⟩ = some (.int .i64 N) := hd6.cell 2; have hB6 : Below w.heap.size w w6 := below_of_only (below_of_only HBD.out.drew hg5 (by have := hBs; simp; omega) hB1s) hg6 (by have := hg5.size; have := hBs; simp at *; omega) hB2s; clear hs6)
          | ((go_at_call 32; (with_reducible refine (reftake_any _ _ _ _ _ HrD.out.drew Hne.out).mono ?_); rintro e w7 ⟨rfl, hr7, hg7, hs7⟩); have hm7 := (mdrew HmD.out).grown hg7 n5.out; have hd7 := HD.out.drew.grown hg7 n2.out; have d71 : w7.cell? ⟨wr.heap.size, 1, none⟩ = some (.int .i64 Kind) := hd7.cell 1; have d72 : w7.cell? ⟨wr.heap.size, 2, none⟩ = some (.int .i64 N) := hd7.cell 2; clear hs7)
          | ((go_at_call 27; (with_reducible refine (take_any _ _ _ _ hm7).mono ?_); rintro e w8 ⟨rfl, hm8, hg8, hs8⟩); have hr8 := hr7.grown hg8 n3.out n4.out; have hd8 := hd7.grown hg8 n1.out; have d81 : w8.cell? ⟨wr.heap.size, 1, none⟩ = some (.int .i64 Kind) := hd8.cell 1; have d82 : w8.cell? ⟨wr.heap.size, 2, none⟩ = some (.int .i64 N) := hd8.cell 2; have hB8 : Below w.heap.size w w8 := below_of_only (below_of_only HBD.out.drew hg7 (by have := hBs; simp; omega) hB2s) hg8 (by have := hg7.size; have := hBs; simp at *; omega) hB1s; clear hs8))
        all_goals
          go_wp2
          go_roundw
        all_goals first
          | exact ⟨k + 1, _, by omega, by go_num, hm6, hr6, hB6⟩
          | exact ⟨k + 1, _, by omega, by go_num, hm8, hr8, hB8⟩
          | (simp [intOf]; omega)
      have f3 : (What == 3) = false := by rw [beq_eq_false_iff_ne]; exact hW3
      clear hW3
      by_cases hW4 : What = 4
      · have t4 : (What == 4) = true := by rw [hW4]; rfl
        clear hW4
        go_wp2
        go_region_held3 (fun w' => w'.cell? ⟨wr.heap.size, 1, none⟩ = some (.int .i64 Kind) ∧ w'.cell? ⟨wr.heap.size, 2, none⟩ = some (.int .i64 N)) (first | go_keep | (exact ⟨HD.out.cell 1, HD.out.cell 2⟩)) (first
          | ((go_at_call 26; (with_reducible refine (raise_any _ _ _ _ _ (mdrew HmD.out)).mono ?_); rintro e w5 ⟨rfl, hm5, hg5, hs5⟩); have hr5 := HrD.out.drew.grown hg5 n3.out n4.out; have hd5 := HD.out.drew.grown hg5 n1.out; have d51 : w5.cell? ⟨wr.heap.size, 1, none⟩ = some (.int .i64 Kind) := hd5.cell 1; have d52 : w5.cell? ⟨wr.heap.size, 2, none⟩ = some (.int .i64 N) := hd5.cell 2; clear hs5)
          | ((go_at_call 33; (with_reducible refine (refraise_any _ _ _ _ _ _ hr5 Hne.out).mono ?_); rintro e w6 ⟨rfl, hr6, hg6, hs6⟩); have hm6 := hm5.grown hg6 n5.out; have hd6 := hd5.grown hg6 n2.out; have d61 : w6.cell? ⟨wr.heap.size, 1, none⟩ = some (.int .i64 Kind) := hd6.cell 1; have d62 : w6.cell? ⟨wr.heap.size, 2, none⟩ = some (.int .i64 N) := hd6.cell 2; have hB6 : Below w.heap.size w w6 := below_of_only (below_of_only HBD.out.drew hg5 (by have := hBs; simp; omega) hB1s) hg6 (by have := hg5.size; have := hBs; simp at *; omega) hB2s; clear hs6)
          | ((go_at_call 33; (with_reducible refine (refraise_any _ _ _ _ _ _ HrD.out.drew Hne.out).mono ?_); rintro e w7 ⟨rfl, hr7, hg7, hs7⟩); have hm7 := (mdrew HmD.out).grown hg7 n5.out; have hd7 := HD.out.drew.grown hg7 n2.out; have d71 : w7.cell? ⟨wr.heap.size, 1, none⟩ = some (.int .i64 Kind) := hd7.cell 1; have d72 : w7.cell? ⟨wr.heap.size, 2, none⟩ = some (.int .i64 N) := hd7.cell 2; clear hs7)
          | ((go_at_call 26; (with_reducible refine (raise_any _ _ _ _ _ hm7).mono ?_); rintro e w8 ⟨rfl, hm8, hg8, hs8⟩); have hr8 := hr7.grown hg8 n3.out n4.out; have hd8 := hd7.grown hg8 n1.out; have d81 : w8.cell? ⟨wr.heap.size, 1, none⟩ = some (.int .i64 Kind) := hd8.cell 1; have d82 : w8.cell? ⟨wr.heap.size, 2, none⟩ = some (.int .i64 N) := hd8.cell 2; have hB8 : Below w.heap.size w w8 := below_of_only (below_of_only HBD.out.drew hg7 (by have := hBs; simp; omega) hB2s) hg8 (by have := hg7.size; have := hBs; simp at *; omega) hB1s; clear hs8))
        all_goals
          go_wp2
          go_roundw
        all_goals first
          | exact ⟨k + 1, _, by omega, by go_num, hm6, hr6, hB6⟩
          | exact ⟨k + 1, _, by omega, by go_num, hm8, hr8, hB8⟩
          | (simp [intOf]; omega)
      have f4 : (What == 4) = false := by rw [beq_eq_false_iff_ne]; exact hW4
      clear hW4
      go_wp2
      go_roundw
      case rel => exact ⟨k + 1, _, by omega, by go_num, HmD.out, HrD.out, HBD.out⟩
      case measure => simp [intOf]; omega
    · have hc0 : wr.cell? ⟨gl + 1, 0, none⟩ = some (.slice (some ⟨gl, 0, none⟩) 6 6) := hrm.2.1.cell 0
      have hL : l.map iv = l.map iv := rfl
      have hrd : ∀ w5 : World, Below wr.drew.heap.size wr.drew w5 → RI w5 (some ⟨gl, 0, none⟩) 6 l := fun w5 hb5 => by
        have h1 := Rd.of_block (enc := iv) (l := l) hrm.2.2 (by simp)
        rw [hrm.1] at h1
        exact (h1.drew'.below hb5 (Nat.le_refl _)).ri
      have Hrd := Lib.hid hrd
      clear hrd hL
      go_wp2
      go_region_held3 (fun w' => w'.cell? ⟨gl + 1, 0, none⟩ = some (.slice (some ⟨gl, 0, none⟩) 6 6)) (first | go_keep | assumption) (first
        | ((go_at_call 28; (with_reducible refine (all_any _ _ _ (mdrew hm)).mono ?_); rintro e w5 ⟨A5, c5, rfl, hown5, hb5⟩); have hc5 : w5.cell? ⟨gl + 1, 0, none⟩ = some (.slice (some ⟨gl, 0, none⟩) 6 6) := ((hrm.drew.2.1.below hb5 (by have := hrm.2.1.lt; simp; omega)).cell 0); have hrd5 : RI w5 (some ⟨gl, 0, none⟩) 6 l := Hrd.out _ hb5)
        | (go_at_call 34; (with_reducible refine (ints_any _ _ _ _ _ _ l l _ hown5.rd.ri hrd5 (by unfold maxLen; omega)).mono ?_); rintro e w6 ⟨rfl, q6, rfl⟩))
      all_goals
        go_wp2
        go_ret
      exact ⟨by first | rfl | (simp; done), below_drewN (below_then hB.drew hb5 (by simp; omega)) q6⟩

theorem walk (w : World) (v : Value) (hv : ∃ A n c, ∃ zs : List Int, v = .slice A n c ∧ zs.length = n * 3 ∧ Row w A (n * 3) (fun i => .int .i64 (zs.getD i 0)) ∧ n ≤ c ∧ c ≤ maxLen ∧ (∀ z ∈ zs, -9223372036854775808 ≤ z ∧ z ≤ 9223372036854775807)) :
    Calls Try.prog 9 #[v] w fun e w' => e = .returned (.bool true) ∧ Below w.heap.size w w' := by
  obtain ⟨A, n, c, zs, rfl, _, hr, hnc, hcm, _⟩ := hv
  by_cases h : 60 < n
  · exact walk_big A n c w h (by omega)
  · exact walk_small A n c zs w (by omega) hr

--FRAME tompionlaw05 MeterCounts meterCounts walk raw:[]tompionlaw05.Do:args_do:.slice‹_›none‹_›0‹_›0
theorem own : ownKnob Try.prog.godebug = none := by kernel_rfl
theorem laidOut : laidOutB Try.prog = true := by kernel_rfl

set_option maxRecDepth 100000 in
theorem lifted (os : Os) (started : os.Started) (H : Type) (enc : TypeId × Value → H) :
    ReturnsInHanded {} Try.checked os 9 .any (Rows.meterCountsSpec.pre6 enc Try.prog Try.f9 Rows.meterCountsRow.domain false) (Rows.meterCountsSpec.post enc Try.prog Try.f9 false true false false) := by
  refine returnsInHanded_of_change (C := Try.checked) own started (by kernel_rfl) Try.func9
    (ChangeSpec.witness6 (enc := enc) (C := Try.checked) false ⟨#[], #[.slice none 0 0], []⟩ 8 (by kernel_rfl) (by kernel_rfl) (by kernel_rfl) (by kernel_rfl)) ?_
  intro W base args ds gs before hval0 hW hcnd _
  have hval : ∀ (j : Nat) t v, Try.f9.params[j]? = some t → args[j]? = some v → Value.okWide Try.prog W .any base t v := hval0
  have hW' := hW
  obtain ⟨p, q, hA0, hV, rfl, hfz, hnd⟩ := hW
  have hA : DataW.TrodAll enc Try.prog W 0 (fun _ => true) true Try.f9.params.toList args.toList ds p := hA0
  rw [Try.params9] at hA hval
  obtain ⟨v0, vs0, d0, ds0, p0, q0, hargs, rfl, rfl, h0, rr0⟩ := trodAll_cons hA
  obtain ⟨rfl, rfl, rfl⟩ := trodAll_nil rr0
  obtain rfl : args = #[v0] := by cases args; simp_all
  obtain ⟨rfl, rfl⟩ := trodVars_none hV
  have k0 := h0
  have lt0 : ∀ x ∈ p0, x.block < W.heap.size := by obtain ⟨m, hm⟩ := k0; exact DataW.trod_lt m _ _ _ hm
  have x0 := args_do (hval 0 41 v0 rfl rfl) h0
  clear hA0 hval0
  refine (walk W v0 x0).mono fun e W' ⟨he, bel⟩ => ?_
  subst he
  exact ⟨_, rfl, _, _, _, [], _, [], hW', trodAll_mk1 (shut_bool Try.underlying4 _), (trodAll_cons_mk (Below.trod laidOut (by kernel_rfl) (of_decide_eq_true (by kernel_rfl)) k0 bel lt0) trodAll_mk0), rfl, bel.frame _, fun h => by cases h⟩

theorem over : Rows.meterCountsRow.holds Try.pinned (OpenSpec.ofChange Rows.meterCountsSpec) :=
  OpenClaim.holds_of_wide 9 Try.f9 rfl rfl rfl rfl rfl rfl rfl ⟨rfl, rfl, rfl, rfl, rfl⟩ rfl rfl rfl rfl rfl (by kernel_rfl) Try.func9 (by kernel_rfl)
    (of_decide_eq_true (by kernel_rfl)) (by unfold Func.isWrapper; first | (rw [if_pos (by decide +kernel)]; kernel_rfl) | (rw [if_neg (by decide +kernel)]; exact ⟨rfl, rfl⟩))
    (fun os started H enc _ => lifted os started H enc)

theorem proved : Rows.MeterCountsSaid := over
--ENDFRAME
end Go.Proofs.Ytmaiafmpihpleaa.meterCounts
