/- LotEvents: any events by lot are the document's, right, and of rows that fit; the first of more are the same. -/
import Derived.Test.YtkhihgilodhjfaaLotEventsA
namespace Go.Proofs.Ytkhihgilodhjfaa.lotEvents
open Go.ChangeShapes Go.WideShapes Go.ChangeAt Go.RowKit
set_option linter.unusedVariables false

theorem evsD_zero (ts : List Int) (s : UInt64) : evsD ts s 0 = (s, []) := rfl
theorem evsD_succ (ts : List Int) (s : UInt64) (k : Nat) : evsD ts s (k + 1) = ((evD ts (evsD ts s k).1).1, (evsD ts s k).2 ++ [(evD ts (evsD ts s k).1).2]) := rfl
theorem fst_of {α β : Type} {p : α × β} {a : α} {b : β} (h : p = (a, b)) : p.1 = a := by rw [h]
theorem snd_of {α β : Type} {p : α × β} {a : α} {b : β} (h : p = (a, b)) : p.2 = b := by rw [h]
theorem walk (w : World) (seed : Int) (ws0 : (Lit.int .i64 seed).wf = true) (A : Option Addr) (m c : Nat) (ts : List Int) (ht : RI w A m ts) (hmc : m ≤ c) (hc : c ≤ maxLen) (wt : ∀ z ∈ ts, -9223372036854775808 ≤ z ∧ z ≤ 9223372036854775807) (n : Int) (wn0 : (Lit.int .i64 n).wf = true) :
    Calls Try.prog 7 #[.int .i64 seed, .slice A m c, .int .i64 n] w fun e w' => e = .returned (.bool true) ∧ Below w.heap.size w w' := by
  have ws := bounds_i64 ws0
  by_cases h1 : 20 < m
  · exact walk_big seed n A m c w (by unfold maxLen at hc; omega) (.inl h1)
  by_cases h2 : 20 < n ∧ n ≤ 4096
  · exact walk_big seed n A m c w (by unfold maxLen at hc; omega) (.inr ⟨by omega, h2.1, h2.2⟩)
  by_cases h3 : rightB ts = false ∨ n < 0 ∨ 4096 < n
  · exact walk_bad seed n A m c ts w ht (by omega) (by omega) h3
  have hr : rightB ts = true := by
    cases h : rightB ts with
    | true => rfl
    | false => exact absurd (.inl h) h3
  have hn0 : 0 ≤ n ∧ n ≤ 20 := by omega
  obtain ⟨k, rfl⟩ : ∃ k : Nat, n = k := ⟨n.toNat, by omega⟩
  have hml : m ≤ maxLen := by omega
  exact walk_gen evD (evsD ts (UInt64.ofNat (un seed))) seed k A m c ts w ht (by omega) (by omega) hr
    (by rw [fst_of (evsD_zero ts (UInt64.ofNat (un seed))), UInt64.toNat_ofNat_of_lt' (by have := un_lt seed; simp [UInt64.size]; omega)]; exact sg_un ws.1 ws.2)
    (fun w h => events_any seed k A m c ts w h hml (by omega) hr)
    (fun w h => by have := events_any seed (k + 1) A m c ts w h hml (by omega) hr; rwa [Int.natCast_succ] at this)
    (fun g s w h h' h9 => refevent_any g s A m c ts w h h' hr h9) (fun j => fst_of (evsD_succ ts _ j)) ((evs_get (evsD ts (UInt64.ofNat (un seed))) (evD ts) (snd_of (evsD_zero ts _)) (fun j => evsD_succ ts _ j) k).2) (evsD_take ts _ k (k + 1) (by omega)) (fun s => evD_ok ts s hr) (fun s h => evD_fits ts s hr h)

--FRAME tompionlaw44 LotEvents lotEvents walk i64 ints i64
theorem own : ownKnob Try.prog.godebug = none := by kernel_rfl
theorem laidOut : laidOutB Try.prog = true := by kernel_rfl

set_option maxRecDepth 100000 in
theorem lifted (os : Os) (started : os.Started) (H : Type) (enc : TypeId × Value → H) :
    ReturnsInHanded {} Try.checked os 7 .any (Rows.lotEventsSpec.pre6 enc Try.prog Try.f7 Rows.lotEventsRow.domain false) (Rows.lotEventsSpec.post enc Try.prog Try.f7 false true false false) := by
  refine returnsInHanded_of_change (C := Try.checked) own started (by kernel_rfl) Try.func7
    (ChangeSpec.witness6 (enc := enc) (C := Try.checked) false ⟨#[], #[.int .i64 0, .slice none 0 0, .int .i64 0], []⟩ 8 (by kernel_rfl) (by kernel_rfl) (by kernel_rfl) (by kernel_rfl)) ?_
  intro W base args ds gs before hval0 hW hcnd _
  have hval : ∀ (j : Nat) t v, Try.f7.params[j]? = some t → args[j]? = some v → Value.okWide Try.prog W .any base t v := hval0
  have hW' := hW
  obtain ⟨p, q, hA0, hV, rfl, hfz, hnd⟩ := hW
  have hA : DataW.TrodAll enc Try.prog W 0 (fun _ => true) true Try.f7.params.toList args.toList ds p := hA0
  rw [Try.params7] at hA hval
  obtain ⟨v0, vs0, d0, ds0, p0, q0, hargs, rfl, rfl, h0, rr0⟩ := trodAll_cons hA
  obtain ⟨v1, vs1, d1, ds1, p1, q1, rfl, rfl, rfl, h1, rr1⟩ := trodAll_cons rr0
  obtain ⟨v2, vs2, d2, ds2, p2, q2, rfl, rfl, rfl, h2, rr2⟩ := trodAll_cons rr1
  obtain ⟨rfl, rfl, rfl⟩ := trodAll_nil rr2
  obtain rfl : args = #[v0, v1, v2] := by cases args; simp_all
  obtain ⟨rfl, rfl⟩ := trodVars_none hV
  have k0 := h0
  have lt0 : ∀ x ∈ p0, x.block < W.heap.size := by obtain ⟨m, hm⟩ := k0; exact DataW.trod_lt m _ _ _ hm
  obtain ⟨a0, rfl, wf0⟩ := args_int Try.underlying3 (hval 0 3 v0 rfl rfl) h0
  have k1 := h1
  have lt1 : ∀ x ∈ p1, x.block < W.heap.size := by obtain ⟨m, hm⟩ := k1; exact DataW.trod_lt m _ _ _ hm
  obtain ⟨A1, n1, c1, l1, rfl, r1, nc1, cm1, wf1⟩ := args_ints Try.underlying22 Try.underlying3 (by kernel_rfl) (hval 1 22 v1 rfl rfl) h1
  have k2 := h2
  have lt2 : ∀ x ∈ p2, x.block < W.heap.size := by obtain ⟨m, hm⟩ := k2; exact DataW.trod_lt m _ _ _ hm
  obtain ⟨a2, rfl, wf2⟩ := args_int Try.underlying3 (hval 2 3 v2 rfl rfl) h2
  clear hA0 hval0
  refine (walk W a0 wf0 A1 n1 c1 l1 r1 nc1 cm1 wf1 a2 wf2).mono fun e W' ⟨he, bel⟩ => ?_
  subst he
  exact ⟨_, rfl, _, _, _, [], _, [], hW', trodAll_mk1 (shut_bool Try.underlying4 _), (trodAll_cons_mk (Below.trod laidOut (by kernel_rfl) (of_decide_eq_true (by kernel_rfl)) k0 bel lt0) (trodAll_cons_mk (Below.trod laidOut (by kernel_rfl) (of_decide_eq_true (by kernel_rfl)) k1 bel lt1) (trodAll_cons_mk (Below.trod laidOut (by kernel_rfl) (of_decide_eq_true (by kernel_rfl)) k2 bel lt2) trodAll_mk0))), rfl, bel.frame _, fun h => by cases h⟩

theorem over : Rows.lotEventsRow.holds Try.pinned (OpenSpec.ofChange Rows.lotEventsSpec) :=
  OpenClaim.holds_of_wide 7 Try.f7 rfl rfl rfl rfl rfl rfl rfl ⟨rfl, rfl, rfl, rfl, rfl⟩ rfl rfl rfl rfl rfl (by kernel_rfl) Try.func7 (by kernel_rfl)
    (of_decide_eq_true (by kernel_rfl)) (by unfold Func.isWrapper; first | (rw [if_pos (by decide +kernel)]; kernel_rfl) | (rw [if_neg (by decide +kernel)]; exact ⟨rfl, rfl⟩))
    (fun os started H enc _ => lifted os started H enc)

theorem proved : Rows.LotEventsSaid := over
--ENDFRAME
end Go.Proofs.Ytkhihgilodhjfaa.lotEvents
