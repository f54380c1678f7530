/- CrcSums: the sum of any parts is the document's, of all of them as one text; and so are a sum's bytes. -/
import Derived.Test.YtaokboendpkjfaaCrcLawA
import Derived.Test.YtaokboendpkjfaaFrame
import Derived.Test.YtaokboendpkjfaaRefCrc
namespace Go.Proofs.Ytaokboendpkjfaa.crcSums
open Go.ChangeShapes Go.WideShapes Go.ChangeAt Go.RowKit
set_option linter.unusedVariables false

theorem bytes_any (s : Nat) (w : World) (hs : s < 4294967296) : Calls Try.prog 20 #[.int .u32 s] w fun e w' => e = .returned (.agg #[.int .u8 ((s : Int) % 256), .int .u8 ((s : Int) / 256 % 256), .int .u8 ((s : Int) / 65536 % 256), .int .u8 ((s : Int) / 16777216)]) ∧ Below w.heap.size w w' := by
  go_enter Try.func20, Try.ntmps20
  go_wp2
  refine bodyPost_ret (v := .agg #[.int .u8 ((s : Int) % 256), .int .u8 ((s : Int) / 256 % 256), .int .u8 ((s : Int) / 65536 % 256), .int .u8 ((s : Int) / 16777216)]) (by simp [results, Try.results20, go_sem]) rfl ?_
  exact ⟨rfl, (by (repeat' (first | (with_reducible exact Below.refl _ _) | (with_reducible assumption) | (with_reducible refine Below.drew ?_) | (with_reducible refine below_drewN ?_ _) | (with_reducible refine Below.alloc ?_ ?_ _) | (with_reducible refine Below.setCell ?_ ?_ _) | omega | (simp; done) | (simp; omega))))⟩

theorem walk_big (A0 A1 : Option Addr) (n0 c0 n1 c1 : Nat) (s : Int) (w : World) (h : 300 < n0 ∨ 300 < n1) (h0 : n0 ≤ maxLen) (h1 : n1 ≤ maxLen) :
    Calls Try.prog 6 #[.slice A0 n0 c0, .slice A1 n1 c1, .int .u32 s] w fun e w' => e = .returned (.bool true) ∧ Below w.heap.size w w' := by
  unfold maxLen at h0 h1
  by_cases h2 : 300 < n0
  all_goals
    go_enter Try.func6, Try.ntmps6
    go_wp2_with (go_at_call 15; (with_reducible refine (awake2 _).mono ?_); rintro e w1 ⟨rfl, hb⟩)
    go_ret
    exact ⟨rfl, hb⟩

theorem sum_none (w : World) : Calls Try.prog 17 #[.slice none 0 0] w fun e w' => e = .returned (.int .u32 0) ∧ w = w' :=
  sum_any none 0 0 [] w ⟨rfl, fun _ => (none, 0, 0), Row.nil _ _ _, fun i hi => absurd hi (by simp)⟩ (by decide)

theorem crcSum_two (a b : List UInt8) : crcSum [a, b] = crcSum [a ++ b] := by
  have h := crcFold_lt a (c := 4294967295 - 0) (by omega)
  show crcMore (crcMore 0 a) b = crcMore 0 (a ++ b)
  unfold crcMore
  rw [crcFold_append, show 4294967295 - (4294967295 - crcFold (4294967295 - 0) a) = crcFold (4294967295 - 0) a from by omega]

theorem walk_small (A0 A1 : Option Addr) (n0 c0 n1 c1 : Nat) (s : Nat) (l0 l1 : List UInt8) (w : World) (h0 : n0 ≤ 300) (h1 : n1 ≤ 300) (hs : s < 4294967296) (hr0 : RB w A0 n0 l0) (hr1 : RB w A1 n1 l1) :
    Calls Try.prog 6 #[.slice A0 n0 c0, .slice A1 n1 c1, .int .u32 s] w fun e w' => e = .returned (.bool true) ∧ Below w.heap.size w w' := by
  go_enter Try.func6, Try.ntmps6
  go_wp2_with (first
    | ((go_at_call 15; (with_reducible refine (awake2 _).mono ?_); rintro e w1 ⟨rfl, hb⟩); have hs1 := hb.size)
    | (at_builtin; refine wpList_app rfl rfl elemU8 bv_one (s := .tmp 20) (N := n0) (L := l0) rfl (Ow.new _ _ #[] [] rfl (by decide)) rfl (B := A0) (hr0.below (B := w.heap.size) (by (repeat' (first | (with_reducible exact Below.refl _ _) | (with_reducible assumption) | (with_reducible refine Below.drew ?_) | (with_reducible refine below_drewN ?_ _) | (with_reducible refine Below.alloc ?_ ?_ _) | (with_reducible refine Below.setCell ?_ ?_ _) | omega | (simp; done) | (simp; omega)))) (Nat.le_refl _)).rd (by simp) (by simp) (by unfold maxLen; omega) (by omega) (by simp) ?_; intro A2 c2 w2 hown2 hg2 hat2 hb2; replace hown2 := hown2.rebase (base' := w.heap.size) (by first | omega | (simp; done) | (simp; omega)); replace hb2 := below_then' (a := w) (B := w.heap.size) (by (repeat' (first | (with_reducible exact Below.refl _ _) | (with_reducible assumption) | (with_reducible refine Below.drew ?_) | (with_reducible refine below_drewN ?_ _) | (with_reducible refine Below.alloc ?_ ?_ _) | (with_reducible refine Below.setCell ?_ ?_ _) | omega | (simp; done) | (simp; omega)))) hb2 (by first | omega | (simp; done) | (simp; omega)); have hb2s := hb2.size)
    | (at_builtin; refine wpList_app rfl rfl elemU8 bv_one (s := .tmp 22) (N := n0 + n1) (L := l0 ++ l1) rfl hown2 rfl (B := A1) (hr1.below (B := w.heap.size) (by (repeat' (first | (with_reducible exact Below.refl _ _) | (with_reducible assumption) | (with_reducible refine Below.drew ?_) | (with_reducible refine below_drewN ?_ _) | (with_reducible refine Below.alloc ?_ ?_ _) | (with_reducible refine Below.setCell ?_ ?_ _) | omega | (simp; done) | (simp; omega)))) (Nat.le_refl _)).rd rfl rfl (by unfold maxLen; omega) (by omega) (by omega) ?_; intro A3 c3 w3 hown3 hg3 hat3 hb3; replace hown3 := hown3.rebase (base' := w.heap.size) (by first | omega | (simp; done) | (simp; omega)); replace hb3 := below_then' (a := w) (B := w.heap.size) (by (repeat' (first | (with_reducible exact Below.refl _ _) | (with_reducible assumption) | (with_reducible refine Below.drew ?_) | (with_reducible refine below_drewN ?_ _) | (with_reducible refine Below.alloc ?_ ?_ _) | (with_reducible refine Below.setCell ?_ ?_ _) | omega | (simp; done) | (simp; omega)))) hb3 (by first | omega | (simp; done) | (simp; omega)); have hb3s := hb3.size))
  have hr3 := hown3.rd.rb
  have hm0 : n0 ≤ maxLen := by unfold maxLen; omega
  have hm1 : n1 ≤ maxLen := by unfold maxLen; omega
  have hm2 : n0 + n1 ≤ maxLen := by unfold maxLen; omega
  have hlt := crcSum_lt [l0 ++ l1]
  have e1 : (((crcSum [l0, l1] : Nat) : Int) == ((crcSum [l0 ++ l1] : Nat) : Int)) = true := by rw [beq_iff_eq, crcSum_two]
  have hlt2 := crcSum_lt [l0, l1]
  clear hb hg2 hat2 hown2 hg3 hat3 hown3 hb2 hb2s hs1
  have hfin : (((s : Int) % 256 + 256 * ((s : Int) / 256 % 256) + 65536 * ((s : Int) / 65536 % 256) + 16777216 * ((s : Int) / 16777216)) == (s : Int)) = true := by rw [beq_iff_eq]; omega
  go_wp2_with ((go_at_call 20; (with_reducible refine (bytes_any _ _ hs).mono ?_); rintro e w4 ⟨rfl, hb4⟩); replace hr3 := hr3.below hb4 (Nat.le_refl _); replace hb4 := below_then' (a := w) (B := w.heap.size) (by (repeat' (first | (with_reducible exact Below.refl _ _) | (with_reducible assumption) | (with_reducible refine Below.drew ?_) | (with_reducible refine below_drewN ?_ _) | (with_reducible refine Below.alloc ?_ ?_ _) | (with_reducible refine Below.setCell ?_ ?_ _) | omega | (simp; done) | (simp; omega)))) hb4 (by first | omega | (simp; done) | (simp; omega)); have hb4s := hb4.size)
  go_wp2_with (first
    | (go_at_call 17; (with_reducible refine (sum_any _ _ _ [l0, l1] _ (RBs.two (heap_top _ _ (by simp)) (hr0.below (B := w.heap.size) (by (repeat' (first | (with_reducible exact Below.refl _ _) | (with_reducible assumption) | (with_reducible refine Below.drew ?_) | (with_reducible refine below_drewN ?_ _) | (with_reducible refine Below.alloc ?_ ?_ _) | (with_reducible refine Below.setCell ?_ ?_ _) | omega | (simp; done) | (simp; omega)))) (Nat.le_refl _)) hm0 (hr1.below (B := w.heap.size) (by (repeat' (first | (with_reducible exact Below.refl _ _) | (with_reducible assumption) | (with_reducible refine Below.drew ?_) | (with_reducible refine below_drewN ?_ _) | (with_reducible refine Below.alloc ?_ ?_ _) | (with_reducible refine Below.setCell ?_ ?_ _) | omega | (simp; done) | (simp; omega)))) (Nat.le_refl _)) hm1) (by decide)).mono ?_); rintro e w' ⟨rfl, rfl⟩)
    | ((go_at_call 21; (with_reducible refine (sum_ref _ _ _ (l0 ++ l1) _ (hr3.below (B := w4.heap.size) (by (repeat' (first | (with_reducible exact Below.refl _ _) | (with_reducible assumption) | (with_reducible refine Below.drew ?_) | (with_reducible refine below_drewN ?_ _) | (with_reducible refine Below.alloc ?_ ?_ _) | (with_reducible refine Below.setCell ?_ ?_ _) | omega | (simp; done) | (simp; omega)))) (Nat.le_refl _)) hm2).mono ?_); rintro e w5 ⟨rfl, hb5⟩); replace hr3 := hr3.below (B := w4.heap.size) (below_then' (by (repeat' (first | (with_reducible exact Below.refl _ _) | (with_reducible assumption) | (with_reducible refine Below.drew ?_) | (with_reducible refine below_drewN ?_ _) | (with_reducible refine Below.alloc ?_ ?_ _) | (with_reducible refine Below.setCell ?_ ?_ _) | omega | (simp; done) | (simp; omega)))) hb5 (by first | omega | (simp; done) | (simp; omega))) (Nat.le_refl _); replace hb5 := below_then' (a := w) (B := w.heap.size) (by (repeat' (first | (with_reducible exact Below.refl _ _) | (with_reducible assumption) | (with_reducible refine Below.drew ?_) | (with_reducible refine below_drewN ?_ _) | (with_reducible refine Below.alloc ?_ ?_ _) | (with_reducible refine Below.setCell ?_ ?_ _) | omega | (simp; done) | (simp; omega)))) hb5 (by first | omega | (simp; done) | (simp; omega)); have hb5s := hb5.size))
  go_wp2_with (first
    | (go_at_call 17; (with_reducible refine (sum_any _ _ _ [l0 ++ l1] _ (RBs.one (heap_top _ _ (by simp)) (hr3.below (B := w5.heap.size) (by (repeat' (first | (with_reducible exact Below.refl _ _) | (with_reducible assumption) | (with_reducible refine Below.drew ?_) | (with_reducible refine below_drewN ?_ _) | (with_reducible refine Below.alloc ?_ ?_ _) | (with_reducible refine Below.setCell ?_ ?_ _) | omega | (simp; done) | (simp; omega)))) (Nat.le_refl _)) hm2) (by decide)).mono ?_); rintro e w' ⟨rfl, rfl⟩)
    | ((go_at_call 21; (with_reducible refine (sum_ref _ _ _ (l0 ++ l1) _ (hr3.below (B := w5.heap.size) (by (repeat' (first | (with_reducible exact Below.refl _ _) | (with_reducible assumption) | (with_reducible refine Below.drew ?_) | (with_reducible refine below_drewN ?_ _) | (with_reducible refine Below.alloc ?_ ?_ _) | (with_reducible refine Below.setCell ?_ ?_ _) | omega | (simp; done) | (simp; omega)))) (Nat.le_refl _)) hm2).mono ?_); rintro e w6 ⟨rfl, hb6⟩); replace hb6 := below_then' (a := w) (B := w.heap.size) (by (repeat' (first | (with_reducible exact Below.refl _ _) | (with_reducible assumption) | (with_reducible refine Below.drew ?_) | (with_reducible refine below_drewN ?_ _) | (with_reducible refine Below.alloc ?_ ?_ _) | (with_reducible refine Below.setCell ?_ ?_ _) | omega | (simp; done) | (simp; omega)))) hb6 (by first | omega | (simp; done) | (simp; omega)); have hb6s := hb6.size)
    | (go_at_call 17; (with_reducible refine (sum_none _).mono ?_); rintro e w' ⟨rfl, rfl⟩))
  go_ret
  exact ⟨rfl, (by (repeat' (first | (with_reducible exact Below.refl _ _) | (with_reducible assumption) | (with_reducible refine Below.drew ?_) | (with_reducible refine below_drewN ?_ _) | (with_reducible refine Below.alloc ?_ ?_ _) | (with_reducible refine Below.setCell ?_ ?_ _) | omega | (simp; done) | (simp; omega))))⟩

theorem walk (w : World) (A0 : Option Addr) (n0 c0 : Nat) (l0 : List UInt8) (r0 : RB w A0 n0 l0) (nc0 : n0 ≤ c0) (cm0 : c0 ≤ maxLen) (A1 : Option Addr) (n1 c1 : Nat) (l1 : List UInt8) (r1 : RB w A1 n1 l1) (nc1 : n1 ≤ c1) (cm1 : c1 ≤ maxLen) (s : Int) (wf : (Lit.int .u32 s).wf = true) :
    Calls Try.prog 6 #[.slice A0 n0 c0, .slice A1 n1 c1, .int .u32 s] w fun e w' => e = .returned (.bool true) ∧ Below w.heap.size w w' := by
  by_cases h : n0 ≤ 300 ∧ n1 ≤ 300
  · have hs := bounds_u32 wf
    obtain ⟨m, rfl⟩ := Int.eq_ofNat_of_zero_le hs.1
    exact walk_small A0 A1 n0 c0 n1 c1 m l0 l1 w h.1 h.2 (by omega) r0 r1
  · exact walk_big A0 A1 n0 c0 n1 c1 s w (by omega) (by omega) (by omega)

--FRAME tompionlaw02 CrcSums crcSums walk bytes bytes u32
theorem own : ownKnob Try.prog.godebug = none := by kernel_rfl
theorem laidOut : laidOutB Try.prog = true := by kernel_rfl

set_option maxRecDepth 100000 in
theorem lifted (os : Os) (started : os.Started) (H : Type) (enc : TypeId × Value → H) :
    ReturnsInHanded {} Try.checked os 6 .any (Rows.crcSumsSpec.pre6 enc Try.prog Try.f6 Rows.crcSumsRow.domain false) (Rows.crcSumsSpec.post enc Try.prog Try.f6 false true false false) := by
  refine returnsInHanded_of_change (C := Try.checked) own started (by kernel_rfl) Try.func6
    (ChangeSpec.witness6 (enc := enc) (C := Try.checked) false ⟨#[], #[.slice none 0 0, .slice none 0 0, .int .u32 0], []⟩ 8 (by kernel_rfl) (by kernel_rfl) (by kernel_rfl) (by kernel_rfl)) ?_
  intro W base args ds gs before hval0 hW hcnd _
  have hval : ∀ (j : Nat) t v, Try.f6.params[j]? = some t → args[j]? = some v → Value.okWide Try.prog W .any base t v := hval0
  have hW' := hW
  obtain ⟨p, q, hA0, hV, rfl, hfz, hnd⟩ := hW
  have hA : DataW.TrodAll enc Try.prog W 0 (fun _ => true) true Try.f6.params.toList args.toList ds p := hA0
  rw [Try.params6] at hA hval
  obtain ⟨v0, vs0, d0, ds0, p0, q0, hargs, rfl, rfl, h0, rr0⟩ := trodAll_cons hA
  obtain ⟨v1, vs1, d1, ds1, p1, q1, rfl, rfl, rfl, h1, rr1⟩ := trodAll_cons rr0
  obtain ⟨v2, vs2, d2, ds2, p2, q2, rfl, rfl, rfl, h2, rr2⟩ := trodAll_cons rr1
  obtain ⟨rfl, rfl, rfl⟩ := trodAll_nil rr2
  obtain rfl : args = #[v0, v1, v2] := by cases args; simp_all
  obtain ⟨rfl, rfl⟩ := trodVars_none hV
  have k0 := h0
  have lt0 : ∀ x ∈ p0, x.block < W.heap.size := by obtain ⟨m, hm⟩ := k0; exact DataW.trod_lt m _ _ _ hm
  obtain ⟨A0, n0, c0, l0, rfl, r0, nc0, cm0⟩ := args_bytes Try.underlying22 Try.underlying5 (by kernel_rfl) (hval 0 22 v0 rfl rfl) h0
  have k1 := h1
  have lt1 : ∀ x ∈ p1, x.block < W.heap.size := by obtain ⟨m, hm⟩ := k1; exact DataW.trod_lt m _ _ _ hm
  obtain ⟨A1, n1, c1, l1, rfl, r1, nc1, cm1⟩ := args_bytes Try.underlying22 Try.underlying5 (by kernel_rfl) (hval 1 22 v1 rfl rfl) h1
  have k2 := h2
  have lt2 : ∀ x ∈ p2, x.block < W.heap.size := by obtain ⟨m, hm⟩ := k2; exact DataW.trod_lt m _ _ _ hm
  obtain ⟨a2, rfl, wf2⟩ := args_int Try.underlying24 (hval 2 24 v2 rfl rfl) h2
  clear hA0 hval0
  refine (walk W A0 n0 c0 l0 r0 nc0 cm0 A1 n1 c1 l1 r1 nc1 cm1 a2 wf2).mono fun e W' ⟨he, bel⟩ => ?_
  subst he
  exact ⟨_, rfl, _, _, _, [], _, [], hW', trodAll_mk1 (shut_bool Try.underlying4 _), (trodAll_cons_mk (Below.trod laidOut (by kernel_rfl) (of_decide_eq_true (by kernel_rfl)) k0 bel lt0) (trodAll_cons_mk (Below.trod laidOut (by kernel_rfl) (of_decide_eq_true (by kernel_rfl)) k1 bel lt1) (trodAll_cons_mk (Below.trod laidOut (by kernel_rfl) (of_decide_eq_true (by kernel_rfl)) k2 bel lt2) trodAll_mk0))), rfl, bel.frame _, fun h => by cases h⟩

theorem over : Rows.crcSumsRow.holds Try.pinned (OpenSpec.ofChange Rows.crcSumsSpec) :=
  OpenClaim.holds_of_wide 6 Try.f6 rfl rfl rfl rfl rfl rfl rfl ⟨rfl, rfl, rfl, rfl, rfl⟩ rfl rfl rfl rfl rfl (by kernel_rfl) Try.func6 (by kernel_rfl)
    (of_decide_eq_true (by kernel_rfl)) (by unfold Func.isWrapper; first | (rw [if_pos (by decide +kernel)]; kernel_rfl) | (rw [if_neg (by decide +kernel)]; exact ⟨rfl, rfl⟩))
    (fun os started H enc _ => lifted os started H enc)

theorem proved : Rows.CrcSumsSaid := over
--ENDFRAME
end Go.Proofs.Ytaokboendpkjfaa.crcSums
