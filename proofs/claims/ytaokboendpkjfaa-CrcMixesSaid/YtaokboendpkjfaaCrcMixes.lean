/- CrcMixes: of texts of one length the sum of their mixture is the mixture of their sums. -/
import Derived.Test.YtaokboendpkjfaaCrcLawA
import Derived.Test.YtaokboendpkjfaaFrame
import Derived.Test.YtaokboendpkjfaaPlainCrc
import Derived.Deep.RegionHeld3
namespace Go.Proofs.Ytaokboendpkjfaa.crcMixes
open Go.ChangeShapes Go.WideShapes Go.ChangeAt Go.RowKit
set_option linter.unusedVariables false

theorem u8_xor (a b : Nat) (ha : a < 256) (hb : b < 256) : bits .xor .u8 (a : Int) (b : Int) = ((a ^^^ b : Nat) : Int) := by
  have hx : a ^^^ b < 2 ^ 8 := Nat.xor_lt_two_pow (by omega) (by omega)
  have h1 : (BitVec.ofInt 8 (a : Int)).toNat = a := by
    rw [BitVec.ofInt_natCast, BitVec.toNat_ofNat]; exact Nat.mod_eq_of_lt (by omega)
  have h2 : (BitVec.ofInt 8 (b : Int)).toNat = b := by
    rw [BitVec.ofInt_natCast, BitVec.toNat_ofNat]; exact Nat.mod_eq_of_lt (by omega)
  show IntKind.u8.wrap ((BitVec.ofInt 8 (a : Int) ^^^ BitVec.ofInt 8 (b : Int)).toNat : Int) = _
  rw [BitVec.toNat_xor, h1, h2]
  simp [IntKind.wrap, IntKind.bits, IntKind.signed]
  omega

theorem mix_length {a b c : List UInt8} {n : Nat} (ha : a.length = n) (hb : b.length = n) (hc : c.length = n) : (mix a b c).length = n := by simp [mix, ha, hb, hc]
theorem mix_at {a b c : List UInt8} {n k : Nat} (ha : a.length = n) (hb : b.length = n) (hc : c.length = n) (hk : k < n) : ((mix a b c).getD k 0).toNat = byteAt a k ^^^ byteAt b k ^^^ byteAt c k := by
  have h : (mix a b c)[k]? = some (a[k] ^^^ b[k] ^^^ c[k]) := by simp [mix, ha, hb, hc, hk]
  unfold byteAt
  rw [List.getD_eq_getElem?_getD, h]
  simp [List.getD_eq_getElem?_getD, ha, hb, hc, hk]

theorem mixed_any (A0 A1 A2 : Option Addr) (n c0 c1 c2 : Nat) (l0 l1 l2 : List UInt8) (w : World) (hn : n ≤ 300) (hr0 : RB w A0 n l0) (hr1 : RB w A1 n l1) (hr2 : RB w A2 n l2) :
    Calls Try.prog 18 #[.slice A0 n c0, .slice A1 n c1, .slice A2 n c2] w fun e w' => ∃ A c, e = .returned (.slice A n c) ∧ OB w' w.heap.size 5 A n c (mix l0 l1 l2) ∧ Below w.heap.size w w' := by
  have hml := Lib.hid (mix_length hr0.1 hr1.1 hr2.1)
  have hma := fun k hk => Lib.hid (mix_at (k := k) hr0.1 hr1.1 hr2.1 hk)
  go_enter Try.func18, Try.ntmps18
  go_wp2
  go_loopw [7, 11] (fun v i wr => ∃ k A c, k ≤ n ∧ i = .int .i64 (k : Nat) ∧ v = .slice A k c ∧ OB wr w.heap.size 5 A k c ((mix l0 l1 l2).take k) ∧ Below w.heap.size w wr) (fun _ i _ => n - (intOf i).toNat)
  case atStart => exact ⟨0, none, 0, Nat.zero_le _, rfl, rfl, Ow.nil _ _ _ _, Below.refl _ _⟩
  case round =>
    obtain ⟨k, A, c, hk, rfl, rfl, hown, hb⟩ := hrel
    have hs := hb.size
    by_cases hlt : k < n
    · obtain ⟨b0, o0, rfl, hb0, hc0⟩ := hr0.at_ hlt
      obtain ⟨b1, o1, rfl, hb1, hc1⟩ := hr1.at_ hlt
      obtain ⟨b2, o2, rfl, hb2, hc2⟩ := hr2.at_ hlt
      have hk1 : (k : Int) < n := by omega
      have hm := hma k hlt
      have ht := Lib.hid (take_succ_byte (mix l0 l1 l2) k (by rw [hml.out]; exact hlt))
      have HB : Hid ([(mix l0 l1 l2).getD k 0].map bv = [.int .u8 ((byteAt l0 k ^^^ byteAt l1 k ^^^ byteAt l2 k : Nat) : Int)]) := congrArg (fun n : Nat => [Value.int .u8 (n : Int)]) hm.out
      clear hma
      rw [← hb.cell (p := ⟨b0, o0 + k, none⟩) hb0] at hc0
      rw [← hb.cell (p := ⟨b1, o1 + k, none⟩) hb1] at hc1
      rw [← hb.cell (p := ⟨b2, o2 + k, none⟩) hb2] at hc2
      have e1 := u8_xor (byteAt l0 k) (byteAt l1 k) (byteAt_lt _ _) (byteAt_lt _ _)
      have e2 := u8_xor (byteAt l0 k ^^^ byteAt l1 k) (byteAt l2 k) (Nat.xor_lt_two_pow (n := 8) (byteAt_lt _ _) (byteAt_lt _ _)) (byteAt_lt _ _)
      go_wp2
      go_region_held3 (fun w' => w'.cell? ⟨b0, o0 + k, none⟩ = some (.int .u8 (byteAt l0 k)) ∧ w'.cell? ⟨b1, o1 + k, none⟩ = some (.int .u8 (byteAt l1 k)) ∧ w'.cell? ⟨b2, o2 + k, none⟩ = some (.int .u8 (byteAt l2 k)))
        (first
          | go_keep
          | (go_split_ands
             refine ⟨?_, ?_, ?_⟩
             · rw [hb5.cell (p := ⟨b0, o0 + k, none⟩) hb0]; assumption
             · rw [hb5.cell (p := ⟨b1, o1 + k, none⟩) hb1]; assumption
             · rw [hb5.cell (p := ⟨b2, o2 + k, none⟩) hb2]; assumption))
        ((refine step_app rfl rfl elemU8 bv_one (N := k + 1) (L := (mix l0 l1 l2).take (k + 1)) rfl (hown.below (b := wr.heap.size) (by (repeat' (first | (with_reducible exact Below.refl _ _) | (with_reducible assumption) | (with_reducible refine Below.drew ?_) | (with_reducible refine below_drewN ?_ _) | (with_reducible refine Below.alloc ?_ ?_ _) | (with_reducible refine Below.setCell ?_ ?_ _) | omega | (simp; done) | (simp; omega)))) (Nat.le_refl _)) rfl (k := [(mix l0 l1 l2).getD k 0]) (Rd.of_block (l := [(mix l0 l1 l2).getD k 0]) (heap_top _ _ (by simp)) HB.out.symm) rfl ht.out.symm (by unfold maxLen; omega) (by omega) (by simp; omega) ?_; intro A5 c5 w5 hown5 hg5 hat5 hb5))
      have hB : Below w.heap.size w w5 := Below.trans (by (repeat' (first | (with_reducible exact Below.refl _ _) | (with_reducible assumption) | (with_reducible refine Below.drew ?_) | (with_reducible refine below_drewN ?_ _) | (with_reducible refine Below.alloc ?_ ?_ _) | (with_reducible refine Below.setCell ?_ ?_ _) | omega | (simp; done) | (simp; omega)))) (Below.mono hb5 (Nat.le_refl _))
      clear hg5 hat5 hb5
      go_wp2
      go_roundw
      case rel => exact ⟨k + 1, A5, c5, by omega, by go_num, rfl, hown5, hB⟩
      case measure => simp [intOf]; omega
    · have hkn : k = n := by omega
      subst hkn
      go_wp2
      go_ret
      refine ⟨A, c, rfl, ?_, hb⟩
      rw [List.take_of_length_le (by rw [hml.out]; exact Nat.le_refl _)] at hown
      exact hown

theorem run_min_int4 {P : Program} {w : World} (ts : Array TypeId) (t : TypeId) (k0 k1 k2 k3 : IntKind) (x y z u : Int) :
    (Builtin.min_ ts t #[.int k0 x, .int k1 y, .int k2 z, .int k3 u]).run P w = .ok (.int k0 (min (min (min x y) z) u)) w := by
  have h2 : ∀ (k k' : IntKind) (x y : Int), (Builtin.min2 (.int k x) (.int k' y)).run P w = .ok (.int k (min x y)) w := by
    intro k k' x y
    have := run_min_int2 (P := P) (w := w) ts t k k' x y
    simp [Builtin.min_] at this
    rw [this]
    congr 2
    rw [Int.min_def]; split <;> split <;> omega
  simp [Builtin.min_, h2]

theorem walk0 (A0 A1 A2 : Option Addr) (n0 n1 n2 n c0 c1 c2 : Nat) (l0 l1 l2 : List UInt8) (w : World) (hn : n = min (min n0 n1) (min n2 300)) (hr0 : RB w A0 n l0) (hr1 : RB w A1 n l1) (hr2 : RB w A2 n l2)
    (nc0 : n0 ≤ c0) (nc1 : n1 ≤ c1) (nc2 : n2 ≤ c2) :
    Calls Try.prog 4 #[.slice A0 n0 c0, .slice A1 n1 c1, .slice A2 n2 c2] w fun e w' => e = .returned (.bool true) ∧ Below w.heap.size w w' := by
  have hmin : ∀ W : World, (Builtin.min_ #[3, 3, 3, 3] 3 #[.int .i64 n0, .int .i64 n1, .int .i64 n2, .int .i64 300]).run Try.prog W = .ok (.int .i64 n) W := fun W => by
    rw [run_min_int4]; congr 2; omega
  have hle : n ≤ n0 ∧ n ≤ n1 ∧ n ≤ n2 ∧ n ≤ 300 := by omega
  clear hn
  have s0 := run_cut_to elemU8 A0 n0 c0 n (by omega)
  have s1 := run_cut_to elemU8 A1 n1 c1 n (by omega)
  have s2 := run_cut_to elemU8 A2 n2 c2 n (by omega)
  go_enter Try.func4, Try.ntmps4
  go_wp2_with (go_at_call 15; (with_reducible refine (awake2 _).mono ?_); rintro e w1 ⟨rfl, hb⟩; have hs1 := hb.size)
  go_quiet (fail)
  go_wp2_with (go_at_call 18; (with_reducible refine (mixed_any A0 A1 A2 n _ _ _ l0 l1 l2 _ hle.2.2.2 (hr0.below (B := w.heap.size) (by (repeat' (first | (with_reducible exact Below.refl _ _) | (with_reducible assumption) | (with_reducible refine Below.drew ?_) | (with_reducible refine below_drewN ?_ _) | (with_reducible refine Below.alloc ?_ ?_ _) | (with_reducible refine Below.setCell ?_ ?_ _) | omega | (simp; done) | (simp; omega)))) (Nat.le_refl _)) (hr1.below (B := w.heap.size) (by (repeat' (first | (with_reducible exact Below.refl _ _) | (with_reducible assumption) | (with_reducible refine Below.drew ?_) | (with_reducible refine below_drewN ?_ _) | (with_reducible refine Below.alloc ?_ ?_ _) | (with_reducible refine Below.setCell ?_ ?_ _) | omega | (simp; done) | (simp; omega)))) (Nat.le_refl _)) (hr2.below (B := w.heap.size) (by (repeat' (first | (with_reducible exact Below.refl _ _) | (with_reducible assumption) | (with_reducible refine Below.drew ?_) | (with_reducible refine below_drewN ?_ _) | (with_reducible refine Below.alloc ?_ ?_ _) | (with_reducible refine Below.setCell ?_ ?_ _) | omega | (simp; done) | (simp; omega)))) (Nat.le_refl _))).mono ?_); rintro e w2 ⟨A, c, rfl, hown, hb2⟩)
  have hW : Below w.heap.size w w2 := Below.trans (b := w1.drewN nq) (by (repeat' (first | (with_reducible exact Below.refl _ _) | (with_reducible assumption) | (with_reducible refine Below.drew ?_) | (with_reducible refine below_drewN ?_ _) | (with_reducible refine Below.alloc ?_ ?_ _) | (with_reducible refine Below.setCell ?_ ?_ _) | omega | (simp; done) | (simp; omega)))) (hb2.mono (by simp; omega))
  have hs2 : w.heap.size ≤ w2.heap.size := hW.size
  have hrm := hown.rd.rb
  have hm := crcSum_lt [l0]
  have hm1 := crcSum_lt [l1]
  have hm2 := crcSum_lt [l2]
  have x1 := u32_xor _ _ hm hm1
  have x2 := u32_xor _ _ (u32_lt_xor hm hm1) hm2
  have x3 : (((crcSum [mix l0 l1 l2] : Nat) : Int) == ((crcSum [l0] ^^^ crcSum [l1] ^^^ crcSum [l2] : Nat) : Int)) = true := by
    rw [beq_iff_eq, crc_mix l0 l1 l2 (hr0.1.trans hr1.1.symm) (hr1.1.trans hr2.1.symm)]
  have hmx : n ≤ maxLen := by unfold maxLen; omega
  clear hb2 hown s0 s1 s2 hmin hs1 hm hm1 hm2 nc0 nc1 nc2 hle
  go_wp2_with (first
    | (go_at_call 17; (with_reducible refine (sum_any _ _ _ [mix l0 l1 l2] _ (RBs.one (heap_top _ _ (by simp)) (hrm.below (B := w2.heap.size) (by (repeat' (first | (with_reducible exact Below.refl _ _) | (with_reducible assumption) | (with_reducible refine Below.drew ?_) | (with_reducible refine below_drewN ?_ _) | (with_reducible refine Below.alloc ?_ ?_ _) | (with_reducible refine Below.setCell ?_ ?_ _) | omega | (simp; done) | (simp; omega)))) (Nat.le_refl _)) hmx) (by decide)).mono ?_); rintro e w' ⟨rfl, rfl⟩)
    | (go_at_call 17; (with_reducible refine (sum_any _ _ _ [l0] _ (RBs.one (heap_top _ _ (by simp)) (hr0.below (B := w.heap.size) (by (repeat' (first | (with_reducible exact Below.refl _ _) | (with_reducible assumption) | (with_reducible refine Below.drew ?_) | (with_reducible refine below_drewN ?_ _) | (with_reducible refine Below.alloc ?_ ?_ _) | (with_reducible refine Below.setCell ?_ ?_ _) | omega | (simp; done) | (simp; omega)))) (Nat.le_refl _)) hmx) (by decide)).mono ?_); rintro e w' ⟨rfl, rfl⟩)
    | (go_at_call 17; (with_reducible refine (sum_any _ _ _ [l1] _ (RBs.one (heap_top _ _ (by simp)) (hr1.below (B := w.heap.size) (by (repeat' (first | (with_reducible exact Below.refl _ _) | (with_reducible assumption) | (with_reducible refine Below.drew ?_) | (with_reducible refine below_drewN ?_ _) | (with_reducible refine Below.alloc ?_ ?_ _) | (with_reducible refine Below.setCell ?_ ?_ _) | omega | (simp; done) | (simp; omega)))) (Nat.le_refl _)) hmx) (by decide)).mono ?_); rintro e w' ⟨rfl, rfl⟩)
    | (go_at_call 17; (with_reducible refine (sum_any _ _ _ [l2] _ (RBs.one (heap_top _ _ (by simp)) (hr2.below (B := w.heap.size) (by (repeat' (first | (with_reducible exact Below.refl _ _) | (with_reducible assumption) | (with_reducible refine Below.drew ?_) | (with_reducible refine below_drewN ?_ _) | (with_reducible refine Below.alloc ?_ ?_ _) | (with_reducible refine Below.setCell ?_ ?_ _) | omega | (simp; done) | (simp; omega)))) (Nat.le_refl _)) hmx) (by decide)).mono ?_); rintro e w' ⟨rfl, rfl⟩))
  go_ret
  exact ⟨rfl, (by (repeat' (first | (with_reducible exact Below.refl _ _) | (with_reducible assumption) | (with_reducible refine Below.drew ?_) | (with_reducible refine below_drewN ?_ _) | (with_reducible refine Below.alloc ?_ ?_ _) | (with_reducible refine Below.setCell ?_ ?_ _) | omega | (simp; done) | (simp; omega))))⟩

theorem walk (w : World) (A0 : Option Addr) (n0 c0 : Nat) (l0 : List UInt8) (r0 : RB w A0 n0 l0) (nc0 : n0 ≤ c0) (cm0 : c0 ≤ maxLen) (A1 : Option Addr) (n1 c1 : Nat) (l1 : List UInt8) (r1 : RB w A1 n1 l1) (nc1 : n1 ≤ c1) (cm1 : c1 ≤ maxLen)
    (A2 : Option Addr) (n2 c2 : Nat) (l2 : List UInt8) (r2 : RB w A2 n2 l2) (nc2 : n2 ≤ c2) (cm2 : c2 ≤ maxLen) :
    Calls Try.prog 4 #[.slice A0 n0 c0, .slice A1 n1 c1, .slice A2 n2 c2] w fun e w' => e = .returned (.bool true) ∧ Below w.heap.size w w' :=
  walk0 A0 A1 A2 n0 n1 n2 _ c0 c1 c2 _ _ _ w rfl (r0.less (by omega)) (r1.less (by omega)) (r2.less (by omega)) nc0 nc1 nc2

--FRAME tompionlaw02 CrcMixes crcMixes walk bytes bytes bytes
theorem own : ownKnob Try.prog.godebug = none := by kernel_rfl
theorem laidOut : laidOutB Try.prog = true := by kernel_rfl

set_option maxRecDepth 100000 in
theorem lifted (os : Os) (started : os.Started) (H : Type) (enc : TypeId × Value → H) :
    ReturnsInHanded {} Try.checked os 4 .any (Rows.crcMixesSpec.pre6 enc Try.prog Try.f4 Rows.crcMixesRow.domain false) (Rows.crcMixesSpec.post enc Try.prog Try.f4 false true false false) := by
  refine returnsInHanded_of_change (C := Try.checked) own started (by kernel_rfl) Try.func4
    (ChangeSpec.witness6 (enc := enc) (C := Try.checked) false ⟨#[], #[.slice none 0 0, .slice none 0 0, .slice none 0 0], []⟩ 8 (by kernel_rfl) (by kernel_rfl) (by kernel_rfl) (by kernel_rfl)) ?_
  intro W base args ds gs before hval0 hW hcnd _
  have hval : ∀ (j : Nat) t v, Try.f4.params[j]? = some t → args[j]? = some v → Value.okWide Try.prog W .any base t v := hval0
  have hW' := hW
  obtain ⟨p, q, hA0, hV, rfl, hfz, hnd⟩ := hW
  have hA : DataW.TrodAll enc Try.prog W 0 (fun _ => true) true Try.f4.params.toList args.toList ds p := hA0
  rw [Try.params4] at hA hval
  obtain ⟨v0, vs0, d0, ds0, p0, q0, hargs, rfl, rfl, h0, rr0⟩ := trodAll_cons hA
  obtain ⟨v1, vs1, d1, ds1, p1, q1, rfl, rfl, rfl, h1, rr1⟩ := trodAll_cons rr0
  obtain ⟨v2, vs2, d2, ds2, p2, q2, rfl, rfl, rfl, h2, rr2⟩ := trodAll_cons rr1
  obtain ⟨rfl, rfl, rfl⟩ := trodAll_nil rr2
  obtain rfl : args = #[v0, v1, v2] := by cases args; simp_all
  obtain ⟨rfl, rfl⟩ := trodVars_none hV
  have k0 := h0
  have lt0 : ∀ x ∈ p0, x.block < W.heap.size := by obtain ⟨m, hm⟩ := k0; exact DataW.trod_lt m _ _ _ hm
  obtain ⟨A0, n0, c0, l0, rfl, r0, nc0, cm0⟩ := args_bytes Try.underlying22 Try.underlying5 (by kernel_rfl) (hval 0 22 v0 rfl rfl) h0
  have k1 := h1
  have lt1 : ∀ x ∈ p1, x.block < W.heap.size := by obtain ⟨m, hm⟩ := k1; exact DataW.trod_lt m _ _ _ hm
  obtain ⟨A1, n1, c1, l1, rfl, r1, nc1, cm1⟩ := args_bytes Try.underlying22 Try.underlying5 (by kernel_rfl) (hval 1 22 v1 rfl rfl) h1
  have k2 := h2
  have lt2 : ∀ x ∈ p2, x.block < W.heap.size := by obtain ⟨m, hm⟩ := k2; exact DataW.trod_lt m _ _ _ hm
  obtain ⟨A2, n2, c2, l2, rfl, r2, nc2, cm2⟩ := args_bytes Try.underlying22 Try.underlying5 (by kernel_rfl) (hval 2 22 v2 rfl rfl) h2
  clear hA0 hval0
  refine (walk W A0 n0 c0 l0 r0 nc0 cm0 A1 n1 c1 l1 r1 nc1 cm1 A2 n2 c2 l2 r2 nc2 cm2).mono fun e W' ⟨he, bel⟩ => ?_
  subst he
  exact ⟨_, rfl, _, _, _, [], _, [], hW', trodAll_mk1 (shut_bool Try.underlying4 _), (trodAll_cons_mk (Below.trod laidOut (by kernel_rfl) (of_decide_eq_true (by kernel_rfl)) k0 bel lt0) (trodAll_cons_mk (Below.trod laidOut (by kernel_rfl) (of_decide_eq_true (by kernel_rfl)) k1 bel lt1) (trodAll_cons_mk (Below.trod laidOut (by kernel_rfl) (of_decide_eq_true (by kernel_rfl)) k2 bel lt2) trodAll_mk0))), rfl, bel.frame _, fun h => by cases h⟩

theorem over : Rows.crcMixesRow.holds Try.pinned (OpenSpec.ofChange Rows.crcMixesSpec) :=
  OpenClaim.holds_of_wide 4 Try.f4 rfl rfl rfl rfl rfl rfl rfl ⟨rfl, rfl, rfl, rfl, rfl⟩ rfl rfl rfl rfl rfl (by kernel_rfl) Try.func4 (by kernel_rfl)
    (of_decide_eq_true (by kernel_rfl)) (by unfold Func.isWrapper; first | (rw [if_pos (by decide +kernel)]; kernel_rfl) | (rw [if_neg (by decide +kernel)]; exact ⟨rfl, rfl⟩))
    (fun os started H enc _ => lifted os started H enc)

theorem proved : Rows.CrcMixesSaid := over
--ENDFRAME
end Go.Proofs.Ytaokboendpkjfaa.crcMixes
