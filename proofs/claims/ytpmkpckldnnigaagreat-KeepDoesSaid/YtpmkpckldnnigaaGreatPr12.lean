/- Parts: SealB, PlainDisk, DiskG. -/
import Derived.Test.YtpmkpckldnnigaaGreatPr02
import Derived.Test.YtpmkpckldnnigaaGreatPr11
import Derived.Test.YtpmkpckldnnigaaGreatPr01
import Derived.Test.YtpmkpckldnnigaaGreatPr10
set_option linter.unusedVariables false
set_option linter.unusedSimpArgs false
set_option maxRecDepth 100000
set_option maxHeartbeats 40000000
namespace Go.Proofs.YtpmkpckldnnigaaGreat
open Go.RowKit
theorem le4_cells (s : Nat) (hs : s < 4294967296) : (le4 s).map bv = [.int .u8 ((s : Int) % 256), .int .u8 ((s : Int) / 256 % 256), .int .u8 ((s : Int) / 65536 % 256), .int .u8 ((s : Int) / 16777216)] := by
  have e : ∀ v : Nat, v < 256 → bv (UInt8.ofNat v) = .int .u8 (v : Int) := fun v hv => qi2 hv
  show [bv (UInt8.ofNat (s / 256 ^ 0 % 256)), bv (UInt8.ofNat (s / 256 ^ 1 % 256)), bv (UInt8.ofNat (s / 256 ^ 2 % 256)), bv (UInt8.ofNat (s / 256 ^ 3 % 256))] = _
  rw [e _ omg, e _ omg, e _ omg, e _ omg]; have h0 : ((s / 256 ^ 0 % 256 : Nat) : Int) = (s : Int) % 256 := omg; have h1 : ((s / 256 ^ 1 % 256 : Nat) : Int) = (s : Int) / 256 % 256 := omg; have h2 : ((s / 256 ^ 2 % 256 : Nat) : Int) = (s : Int) / 65536 % 256 := omg; have h3 : ((s / 256 ^ 3 % 256 : Nat) : Int) = (s : Int) / 16777216 := omg; rw [h0, h1, h2, h3]
theorem qy7 (s : Nat) (w : World) (hs : s < 4294967296) : Calls Tryz.prog 133 #[.int .u32 s] w fun e w' => e = .returned (aggB (le4 s)) ∧ Below w.heap.size w w' := by
  have H := hdd (le4_cells s hs); go_enter Tryz.func133, Tryz.ntmps133; go_wp2; refine bodyPost_ret (v := .agg #[.int .u8 ((s : Int) % 256), .int .u8 ((s : Int) / 256 % 256), .int .u8 ((s : Int) / 65536 % 256), .int .u8 ((s : Int) / 16777216)]) (by simp [results, Tryz.results133, go_sem]) rfl ?_; refine ⟨?_, gwn⟩; unfold aggB; rw [H.out]
theorem size4 : (Tryz.prog.info? 212).map (·.size) = some 4 := by kernel_rfl
theorem make_ok (kind n : Int) (A : Option Addr) (m c : Nat) (l : List UInt8) (w : World) (h1 : 1 ≤ kind) (h2 : kind ≤ 255) (h3 : 0 ≤ n) (h4 : m ≤ 113) (hl : RB w A m l) :
    Calls Tryz.prog 184 #[.int .i64 kind, .int .i64 n, .slice A m c] w fun e w' => e = .returned (.tuple #[aggB (qn6 kind.toNat (un n) l), .int .i64 0]) ∧ Below w.heap.size w w' := by
  have hz := (zero_of_info qf4).1; have hi := (zero_of_info qf4).2; have hlz : (qa5.map bv).length = 128 := by simp [qd2]
  have h1 := qk1 (l := qa5); have c0 : (qa5.map bv)[0]? = some (.int .u8 0) := rfl; have c9 : (qa5.map bv)[9]? = some (.int .u8 0) := rfl; have c127 : (qa5.map bv)[127]? = some (.int .u8 0) := rfl; generalize hR : aggB (qn6 kind.toNat (un n) l) = R; have HR := hdd hR; clear hR; unfold aggB at *; generalize hZ : qa5.map bv = Z at *; have HZ := hdd hZ.symm; clear hZ; have Hl := hdd hlz; have Hi := hdd hi; have H1 := hdd h1; clear hlz hi h1; obtain ⟨L1, hL1⟩ : ∃ L1 : List UInt8, L1 = ((qa5.set 0 (UInt8.ofNat kind.toNat)).set 9 (UInt8.ofNat m)).set 127 215 := ⟨_, rfl⟩; have hZ1 : Hid (((Z.set 0 (.int .u8 kind)).set 9 (.int .u8 (m : Int))).set 127 (.int .u8 215) = L1.map bv) := by
    show _ = _
    rw [hL1, HZ.out, List.map_set, List.map_set, List.map_set]
    congr 2
    · congr 1
      rw [qi2 omg]; congr 1; omega
    · rw [qi2 omg]
  have hlen1 : Hid (L1.length = 128) := by show _ = _; rw [hL1]; simp [qd2]
  obtain ⟨L2, hL2'⟩ : ∃ L2 : List UInt8, L2 = splice L1 1 (putL (un n)) := ⟨_, rfl⟩; have hL2 : Hid (splice L1 1 ((putL (un n)).take 8) = L2) := by show _ = _; rw [hL2', List.take_of_length_le (by rw [qy0]; omega)]
  have hlen2 : Hid (L2.length = 128) := by show _ = _; rw [hL2', length_splice _ _ _ (by rw [qy0, hlen1.out]; omega), hlen1.out]
  obtain ⟨L3, hL3'⟩ : ∃ L3 : List UInt8, L3 = splice L2 10 l := ⟨_, rfl⟩; have hL3 : Hid (splice L2 10 (l.take 113) = L3) := by show _ = _; rw [hL3', List.take_of_length_le (by rw [hl.1]; omega)]
  have hlen3 : Hid (L3.length = 128) := by show _ = _; rw [hL3', length_splice _ _ _ (by rw [hl.1, hlen2.out]; omega), hlen2.out]
  have hL3b : L3 = qf7 kind.toNat (un n) l ++ ([0, 0, 0, 0] ++ [215]) := by
    have h4' : l.length ≤ 113 := by rw [hl.1]; exact h4
    rw [hL3', hL2', hL1, seal_L3 _ _ _ _ (qy0 _) h4', ← seal_L3_body _ _ _ h4', hl.1]
  have hL4 : Hid (splice L3 123 (le4 (qh4 [L3.take 123])) = qn6 kind.toNat (un n) l) := by
    show _ = _
    have h4' : l.length ≤ 113 := by rw [hl.1]; exact h4
    rw [hL3b, seal_L3_take _ _ _ h4', seal_L4 _ _ _ h4']
  have hlen4 : Hid ((qn6 kind.toNat (un n) l).length = 128) := qt9 _ _ _ (by rw [hl.1]; exact h4); clear hL3b; have hsum := qr9 [L3.take 123]; clear hL1 hL2' hL3'; have hsumc := fun a n c w => sum_any a n c [L3.take 123] w
  generalize qh4 [L3.take 123] = S at *; go_enter Tryz.func184, Tryz.ntmps184; go_wp2_with fail; refine qp0 (fun W => Blk W w.heap.size 152 Z ∧ BlkB W (w.heap.size + 1) 152 L1 ∧ Below w.heap.size w W ∧ W.heap.size = w.heap.size + 2) ⟨blq, by unfold BlkB; rw [← hZ1.out]; exact blq, gwn, by simp⟩ ?_; rintro W1 ⟨hb6, hb8, hB1, hs1⟩; go_region_held3 (fun _ => True) (trivial) (first | ((go_at_call 130; (with_reducible refine (vj8 _ _).mono ?_); rintro e w2 ⟨B, d, rfl, hown2, hB2⟩)) | (refine qm9 rfl (d := .tmp 35) (s := .tmp 37) rfl qb4 qc2 (g := w.heap.size + 1) (off := 1) (l := L1) (k := putL (un n)) rfl rfl (fun _ => rfl) (hb8.drew.below hB2 hb8.lt) hown2.rd (by rw [hlen1.out]; omega) hL2.out ?_; intro w3 hb3 hg3 hs3)); have hs2 : w.heap.size + 2 ≤ w2.heap.size := by have := hB2.size; simp at this; omega
  have hB3 : Below w.heap.size w w3 := qc6 (qj7 hB1.drew hB2 (by simp; omega)) hg3 omg omg; have hb6' : Blk w3 w.heap.size 152 Z := (hb6.drew.below hB2 hb6.lt).grown hg3 smp; have hl3 : RB w3 A m l := hl.below hB3 nlr; replace hs3 : w.heap.size + 2 ≤ w3.heap.size := omg; replace hb3 : BlkB w3 (w.heap.size + 1) 152 L2 := hb3; clear hb6 hb8 hB1 hB2 hown2 hg3; go_wp2_with (first | (refine wpList_copy_rd rfl (d := .tmp 39) (s := .tmp 40) rfl qb4 qc2 (g := w.heap.size + 1) (off := 10) (l := L2) (k := l) rfl rfl (fun _ => rfl) hb3 hl3.rd (by rw [hlen2.out]; omega) hL3.out ?_; intro w4 hb4 hg4 hs4) | (go_at_call 134; (with_reducible refine (hsumc _ _ _ _ (RBs.one (qb7 _ _ omg) (BlkB.rb (off := 0) (hb4.alloc _) rfl (by rw [hlen3.out]; omega)) dcd) dcd).mono ?_); rintro e w5 ⟨rfl, rfl⟩) | (go_at_call 133; (with_reducible refine (qy7 S _ hsum).mono ?_); rintro e w6 ⟨rfl, hB6⟩) | (refine qb3 rfl (x := .tmp 9) (y := .tmp 45) rfl rfl rfl (t := 212) (cs := [.int .u8 0, .int .u8 0, .int .u8 0, .int .u8 0]) (xs := (le4 S).map bv) (Blk.top _ rfl rfl) size4 (by simp [qh5]) smp qk1 ?_; intro w7 hb7 hg7 hs7)); have hs6 := hB6.size; simp only [World.size_alloc] at hs6 hs7; have e4 : BlkB w7 w6.heap.size 212 (le4 S) := by
    unfold BlkB; have := hb7
    rwa [qd0 _ _ (by simp [qh5])] at this
  have e5 : Rd bv w7 (some ⟨w6.heap.size, 0, none⟩) 4 (le4 S) := (e4.rb (off := 0) (by rw [List.drop_zero, List.take_of_length_le (by rw [qh5]; omega)]) (by rw [qh5]; omega)).rd; have hL5 : Hid (splice L3 123 ((le4 S).take 4) = qn6 kind.toNat (un n) l) := by show _ = _; rw [List.take_of_length_le (by rw [qh5]; omega), hL4.out]
  have k8 : BlkB w7 (w.heap.size + 1) 152 L3 := (((hb4.alloc _).below hB6 (by simp; omega)).alloc _).grown hg7 (by simp; omega); have k6 : Blk w7 w.heap.size 152 Z := ((((hb6'.grown hg4 smp).alloc _).below hB6 (by simp; omega)).alloc _).grown hg7 (by simp; omega); have hB7 : Below w.heap.size w w7 := by
    refine qc6 (Below.alloc (qa0 (qc6 hB3 hg4 omg omg) (w' := w6) (C := w.heap.size) ?_ nlr) omg _) hg7 (by simp; omega) omg; exact Below.trans ((Below.refl _ _).alloc omg _) (hB6.mono (by simp; omega))
  have hs7' : w.heap.size + 2 < w7.heap.size := omg; clear hb7 hg7 hs7 hB6 hg4 hb4 hs4 hb3 hl3 hb6' hB3 hsumc hs6; go_region_held3 (fun _ => True) (trivial) ((refine qm9 rfl (d := .tmp 46) (s := .tmp 47) rfl qb4 qc2 (g := w.heap.size + 1) (off := 123) (l := L3) (k := le4 S) rfl rfl (fun _ => rfl) k8.drew e5.drew' (by rw [hlen3.out]; omega) hL5.out ?_; intro w8 hb8 hg8 hs8)); replace hB7 : Below w.heap.size w w8 := qc6 hB7.drew hg8 (by simp; omega) omg; have k6' : Blk w8 w.heap.size 152 Z := k6.drew.grown hg8 smp; generalize qn6 kind.toNat (un n) l = L4 at *; have hlen4' : Hid ((L4.map bv).length = 128) := by show _ = _; rw [List.length_map, hlen4.out]
  have hm4 := hdd (qk1 (l := L4)); generalize L4.map bv = C4 at *; replace hs8 : w.heap.size + 2 < w8.heap.size := by have : w7.drew.heap.size = w7.heap.size := rfl; omega
  clear k6 k8 hg8 e4 e5 hL4 hL5 hL2 hL3 hZ1 HZ c0 c9 c127; go_wp2_with (first | (refine qd7 rfl (x := .tmp 8) rfl rfl (t := 152) (cs := C4) hb8 Tryz.underlying152 Hi.out hlen4'.out (xs := C4) (by rw [List.drop_zero, List.take_of_length_le (by rw [hlen4'.out]; omega)]) ?_) | (refine qb3 rfl (x := .tmp 6) (y := .tmp 49) rfl rfl rfl (t := 152) (cs := Z) (xs := C4) k6' Hi.out hlen4'.out (by rw [Hl.out]; omega) hm4.out ?_; intro w9 hb9 hg9 hs9)); refine bodyPost_ret (v := .tuple #[.agg C4.toArray, .int .i64 0]) (qg7 Tryz.results184 _ rfl rfl (by rw [qd0 _ _ (by rw [Hl.out, hlen4'.out])] at hb9; exact hb9) Tryz.underlying152 Hi.out hlen4'.out) rfl ?_; exact ⟨by rw [HR.out], qc6 hB7 hg9 omg nlr⟩
theorem eq128 (l k : List UInt8) (hl : l.length = 128) (hk : k.length = 128) (w : World) : (Op.equalIn 10000 152 (.agg (l.map bv).toArray) (.agg (k.map bv).toArray)).run Tryz.prog w = .ok (decide (l = k)) w :=
  run_eq_bytes Tryz.underlying152 Tryz.underlying5 (by kernel_rfl) (by kernel_rfl) (by kernel_rfl) l k hl hk
theorem cellB {l : List UInt8} (i : Nat) (hi : i < l.length) : (l.map bv)[i]? = some (.int .u8 (qa2 l i)) := by
  unfold qa2 bv; simp [List.getD_eq_getElem?_getD, hi]
def qx2 (l : List UInt8) (kind : Int) : Prop := qa2 l 127 ≠ 215 ∨ (qa2 l 127 = 215 ∧ (qa2 l 0 : Int) ≠ kind) ∨ (qa2 l 127 = 215 ∧ (qa2 l 0 : Int) = kind ∧ 113 < qa2 l 9)
theorem open_bad (l : List UInt8) (kind : Int) (w : World) (hl : l.length = 128) (h : qx2 l kind) :
    Calls Tryz.prog 162 #[aggB l, .int .i64 kind] w fun e w' => e = .returned (.tuple #[.int .i64 0, .slice none 0 0, .int .i64 53]) ∧ Below w.heap.size w w' := by
  have c0 := cellB (l := l) 0 omg; have c9 := cellB (l := l) 9 omg; have c127 := cellB (l := l) 127 omg; have b0 := qf9 l 0; have b9 := qf9 l 9; unfold qx2 at h; unfold aggB; generalize l.map bv = C at *; generalize qa2 l 0 = y0 at *; generalize qa2 l 9 = y9 at *; generalize qa2 l 127 = y127 at *; clear hl; rcases h with h | ⟨h, h2⟩ | ⟨h, h2, h3⟩
  · have e1 : (((y127 : Nat) : Int) != 215) = true := by rw [bne_iff_ne]; omega
    clear h; go_enter Tryz.func162, Tryz.ntmps162; go_wp2; go_ret3; exact ⟨rfl, gwn⟩
  · have e1 : (((y127 : Nat) : Int) != 215) = false := by rw [h]; rfl
    have e2 : (((y0 : Nat) : Int) != kind) = true := by rw [bne_iff_ne]; exact h2
    clear h h2; go_enter Tryz.func162, Tryz.ntmps162; go_wp2; go_ret3; exact ⟨rfl, gwn⟩
  · have e1 : (((y127 : Nat) : Int) != 215) = false := by rw [h]; rfl
    have e2 : (((y0 : Nat) : Int) != kind) = false := by rw [h2]; simp
    have e3 : decide ((113 : Int) < ((y9 : Nat) : Int)) = true := by simp; omega
    clear h h2; go_enter Tryz.func162, Tryz.ntmps162; go_wp2; go_ret3; exact ⟨rfl, gwn⟩
theorem RB.nil_of {w : World} {A : Option Addr} {K : List UInt8} (h : K.length = 0) : RB w A 0 K := ⟨h, Row.nil _ _ _⟩
def qq0 (y9 : Nat) (K : List UInt8) (q : Bool) (N : Int) (w : World) (e : Ending) (w' : World) : Prop :=
  (q = false ∧ e = .returned (.tuple #[.int .i64 0, .slice none 0 0, .int .i64 53]) ∧ Below w.heap.size w w') ∨
  (q = true ∧ ∃ A c, e = .returned (.tuple #[.int .i64 N, .slice A y9 c, .int .i64 0]) ∧ OB w' w.heap.size 5 A y9 c K ∧ Below w.heap.size w w')
theorem qq0.no {y9 : Nat} {K : List UInt8} {N : Int} {w w' : World} (h : Below w.heap.size w w') : qq0 y9 K false N w (.returned (.tuple #[.int .i64 0, .slice none 0 0, .int .i64 53])) w' := .inl ⟨rfl, rfl, h⟩
theorem qq0.yes {y9 c : Nat} {A : Option Addr} {K : List UInt8} {N : Int} {w w' : World} (h : Below w.heap.size w w') (ho : OB w' w.heap.size 5 A y9 c K) : qq0 y9 K true N w (.returned (.tuple #[.int .i64 N, .slice A y9 c, .int .i64 0])) w' := .inr ⟨rfl, A, c, rfl, ho, h⟩
theorem qq0.yes0 {K : List UInt8} {N : Int} {w w' : World} (h : Below w.heap.size w w') (hK : K.length = 0) : qq0 0 K true N w (.returned (.tuple #[.int .i64 N, .slice none 0 0, .int .i64 0])) w' := by
  obtain rfl := List.eq_nil_of_length_eq_zero hK; exact .inr ⟨rfl, none, 0, rfl, Ow.nil _ _ _ _, h⟩
theorem open_main (l M : List UInt8) (kind r : Int) (w : World) (q : Bool) (hl : l.length = 128) (h127 : qa2 l 127 = 215) (h0 : (qa2 l 0 : Int) = kind) (h9 : qa2 l 9 ≤ 113) (hM : M.length = 128)
    (hq : (((r != 0) = true ∧ q = false) ∨ ((r != 0) = false ∧ q = decide (M = l))))
    (hmk : ∀ (A : Option Addr) (c : Nat) (w : World), RB w A (qa2 l 9) (qe2 l) → Calls Tryz.prog 184 #[.int .i64 kind, .int .i64 (sg (qd1 l)), .slice A (qa2 l 9) c] w fun e w' => e = .returned (.tuple #[aggB M, .int .i64 r]) ∧ Below w.heap.size w w') :
    Calls Tryz.prog 162 #[aggB l, .int .i64 kind] w (qq0 (qa2 l 9) (qe2 l) q (sg (qd1 l)) w) := by
  have c0 := cellB (l := l) 0 omg; have c9 := cellB (l := l) 9 omg; have c127 := cellB (l := l) 127 omg; have b0 := qf9 l 0; have b127 := qf9 l 127; have e1 : (((qa2 l 127 : Nat) : Int) != 215) = false := by rw [h127]; rfl
  have e2 : (((qa2 l 0 : Nat) : Int) != kind) = false := by rw [h0]; simp
  have e3 : decide ((113 : Int) < ((qa2 l 9 : Nat) : Int)) = false := by simp; omega
  have hb : ∀ (W : World) (g : Nat), W.heap[g]? = some (.cells (l.map bv).toArray 152 (0, 0)) → BlkB W g 152 l := fun _ _ h => h
  have hneq := fun w => eq128 M l hM hl w
  have hload : (l.drop 10).take (qa2 l 9) = qe2 l := rfl; have hnum : getL ((l.drop 1).take 8) = qd1 l := rfl; have hlo := qu1 hl h9; have hz := (zero_of_info qf4).1; have hi := (zero_of_info qf4).2; have hzl : (qa5.map bv).length = 128 := by simp [qd2]
  have HM := hdd (show (M.map bv).length = 128 by simpa using hM); have HL := hdd (show (l.map bv).length = 128 by simpa using hl); have HM1 := hdd (qk1 (l := M)); have Hl := hdd hl; have Hi := hdd hi; have Hlo := hdd hlo; have Hload := hdd hload; have Hnum := hdd hnum; have H0 := hdd h0; generalize decide (M = l) = b at *; unfold aggB at *; generalize qa5.map bv = Z at *; have Hz := hdd hzl; generalize qa2 l 0 = y0 at *; generalize qa2 l 9 = y9 at *; generalize qa2 l 127 = y127 at *; generalize qd1 l = N at *; generalize qe2 l = K at *; clear hl h127 h0 hM hload hnum hlo hi hzl; have hget : ∀ (A : Option Addr) (c : Nat) (w : World), RB w A 8 ((l.drop 1).take 8) → Calls Tryz.prog 205 #[.slice A 8 c] w fun e w' => e = .returned (.tuple #[.int .i64 (sg N), .int .i64 0]) ∧ w = w' := fun A c w h => by
    have := vk2 A c _ w h
    rwa [Hnum.out] at this
  have hc1 : (10 : Int) + (y9 : Int) ≤ 128 := omg; have Hmk := hdd hmk; clear hmk; have hy : y9 = 0 ∨ ¬ y9 = 0 := omg; have hsl : y9 ≠ 0 → ∀ W : World, (Instr.sliceAt 152 (.pointer (some ⟨w.heap.size, 0, none⟩)) (some (.int .i64 10)) (some (.int .i64 ((10 : Int) + (y9 : Int)))) (some (.int .i64 ((10 : Int) + (y9 : Int))))).run Tryz.prog W = .ok (.slice (some ⟨w.heap.size, 10, none⟩) y9 y9) W :=
    fun h W => run_slice3 Tryz.underlying152 (by kernel_rfl) _ _ _ 10 y9 rfl omg omg omg W
  have hq' : ((r != 0) = true ∧ q = false) ∨ ((r != 0) = false ∧ b = false ∧ q = false) ∨ ((r != 0) = false ∧ b = true ∧ q = true) := by
    rcases hq with h | ⟨h, h2⟩
    · exact .inl h
    · cases b
      · exact .inr (.inl ⟨h, rfl, h2⟩)
      · exact .inr (.inr ⟨h, rfl, h2⟩)
  clear hq; rcases hy with hy | hy
  case' inl => (clear hsl; subst hy)
  case' inr => replace hsl := hsl hy
  all_goals
   rcases hq' with ⟨hr, rfl⟩ | ⟨hr, rfl, rfl⟩ | ⟨hr, rfl, rfl⟩
  all_goals
   go_enter Tryz.func162, Tryz.ntmps162; go_wp2_with (first | (go_at_call 205; (with_reducible refine (hget _ _ _ (BlkB.rb (off := 1) (hb _ _ (qb7 _ _ rfl)) rfl (by rw [Hl.out]; omega))).mono ?_); rintro e w1 ⟨rfl, rfl⟩) | (at_builtin; refine qa6 rfl rfl qb4 qc2 (s := .tmp 34) (N := y9) (L := K) rfl (Ow.nil bv _ w.heap.size _) rfl (k := K) (BlkB.rb (off := 10) (hb _ _ (qb7 _ _ rfl)) Hload.out (by rw [Hl.out]; omega)).rd omg rfl uml omg szz ?_; intro A2 c2 w2 hown2 hg2 hat2 hb2) | (go_at_call 184; (with_reducible refine (Hmk.out _ _ _ hown2.rd.rb).mono ?_); rintro e w3 ⟨rfl, hB3⟩) | (go_at_call 184; (with_reducible refine (Hmk.out none 0 _ (RB.nil_of Hlo.out)).mono ?_); rintro e w3 ⟨rfl, hB3⟩) | (refine qb3 rfl (x := .tmp 8) (y := .tmp 46) rfl rfl rfl (t := 152) (cs := Z) (xs := M.map bv) (Blk.top _ rfl rfl) Hi.out HM.out (by rw [Hz.out]; omega) HM1.out ?_; intro w4 hb4 hg4 hs4; rw [qd0 _ _ (by rw [Hz.out, HM.out])] at hb4) | (refine qd7 rfl (x := .tmp 8) rfl rfl (t := 152) (cs := M.map bv) hb4 Tryz.underlying152 Hi.out HM.out (xs := M.map bv) (by rw [List.drop_zero, List.take_of_length_le (by rw [HM.out]; omega)]) ?_) | (refine qd7 rfl (x := .tmp 2) rfl rfl (t := 152) (cs := l.map bv) ((((hb _ _ ((qb7 _ _ rfl))).grown hg2 smp).below hB3 (by have := hg2.size; simp at this; omega)).alloc _ |>.grown hg4 (by have := hg2.size; have := hB3.size; simp at *; omega)) Tryz.underlying152 Hi.out HL.out (xs := l.map bv) (by rw [List.drop_zero, List.take_of_length_le (by rw [HL.out]; omega)]) ?_) | (refine qd7 rfl (x := .tmp 2) rfl rfl (t := 152) (cs := l.map bv) ((((hb _ _ ((qb7 _ _ rfl))).below hB3 smp).alloc _).grown hg4 (by have := hB3.size; simp at this; simp; omega)) Tryz.underlying152 Hi.out HL.out (xs := l.map bv) (by rw [List.drop_zero, List.take_of_length_le (by rw [HL.out]; omega)]) ?_))
  all_goals
   have h34 : Below w3.heap.size w3 w4 := qc6 ((Below.refl _ _).alloc nlr _) hg4 smp nlr
   first
    | (have hBel : Below w.heap.size w w4 := qj7 (qj7 (qa0 ((Below.refl _ _).alloc nlr _) hb2 nlr) hB3 (by have := hb2.size; simp at this; omega)) h34 (by have := hb2.size; have := hB3.size; simp at *; omega)
       have own4 := (hown2.below hB3 nlr).below h34 nlr; go_ret3; exact (qq0.yes hBel own4))
    | (have hBel : Below w.heap.size w w4 := qj7 (qj7 ((Below.refl _ _).alloc nlr _) hB3 smp) h34 (by have := hB3.size; simp at *; omega)
       go_ret3; exact (qq0.yes0 hBel Hlo.out))
    | (have hBel : Below w.heap.size w w4 := qj7 (qj7 (qa0 ((Below.refl _ _).alloc nlr _) hb2 nlr) hB3 (by have := hb2.size; simp at this; omega)) h34 (by have := hb2.size; have := hB3.size; simp at *; omega)
       go_ret3; exact (qq0.no hBel))
    | (have hBel : Below w.heap.size w w4 := qj7 (qj7 ((Below.refl _ _).alloc nlr _) hB3 smp) h34 (by have := hB3.size; simp at *; omega)
       go_ret3; exact (qq0.no hBel))
theorem open_any (l : List UInt8) (kind : Int) (w : World) (hl : l.length = 128) :
    Calls Tryz.prog 162 #[aggB l, .int .i64 kind] w (qq0 (qa2 l 9) (qe2 l) (qs5 l kind) (sg (qd1 l)) w) := by
  by_cases hbad : qx2 l kind
  · have hf : qs5 l kind = false := by
      cases ho : qs5 l kind with
      | false => rfl
      | true =>
        have h1 := vh7 ho; have h2 := qw8 ho; unfold qx2 at hbad; omega
    rw [hf]; exact (open_bad l kind w hl hbad).mono fun e w' ⟨he, hb⟩ => .inl ⟨rfl, he, hb⟩
  · have h127 : qa2 l 127 = 215 := by unfold qx2 at hbad; omega
    have h0 : (qa2 l 0 : Int) = kind := by unfold qx2 at hbad; omega
    have h9 : qa2 l 9 ≤ 113 := by unfold qx2 at hbad; omega
    have hk := qf9 l 0; have hN := qz6 l; have hlo := qu1 hl h9
    by_cases hok : 1 ≤ kind ∧ qd1 l < 9223372036854775808
    · have hsg : sg (qd1 l) = (qd1 l : Int) := by unfold sg; rw [if_pos hok.2]
      have hun : un (sg (qd1 l)) = qd1 l := un_sg hN; have hq : qs5 l kind = decide (qn6 kind.toNat (qd1 l) (qe2 l) = l) := by
        have e1 : kind ≤ 255 := omg; simp [qs5, hok.1, e1, hok.2, h9]
      refine open_main l (qn6 kind.toNat (qd1 l) (qe2 l)) kind 0 w _ hl h127 h0 h9 (qt9 _ _ _ omg) (.inr ⟨rfl, hq⟩) (fun A c w hr => ?_); have := make_ok kind (sg (qd1 l)) A (qa2 l 9) c (qe2 l) w hok.1 omg omg h9 hr
      rwa [hun] at this
    · have hq : qs5 l kind = false := by
        cases ho : qs5 l kind with
        | false => rfl
        | true =>
          have h2 := qw8 ho; omega
      refine open_main l qa5 kind 2 w _ hl h127 h0 h9 qd2 (.inl ⟨rfl, hq⟩) (fun A c w hr => ?_); refine make_arg kind _ A _ c w ?_; have : 1 ≤ kind → sg (qd1 l) < 0 := fun h => by
        have : ¬ qd1 l < 9223372036854775808 := fun h2 => hok ⟨h, h2⟩
        unfold sg; rw [if_neg this]; omega
      omega
def qt5 (kind n : Int) (l : List UInt8) : List UInt8 × Int :=
  if kind < 1 ∨ 255 < kind ∨ n < 0 then (qa5, 2) else if 113 < l.length then (qa5, 3) else (qn6 kind.toNat n.toNat l, 0)
theorem makeL_len (kind n : Int) (l : List UInt8) : (qt5 kind n l).1.length = 128 := by
  unfold qt5
  split
  · exact qd2
  · split
    · exact qd2
    · exact qt9 _ _ _ omg
theorem un_nat {n : Int} (h0 : 0 ≤ n) (h1 : n ≤ 9223372036854775807) : un n = n.toNat := by unfold un; omega
theorem make_any (kind n : Int) (A : Option Addr) (m c : Nat) (l : List UInt8) (w : World) (hn : n ≤ 9223372036854775807) (hm : m ≤ maxLen) (hl : RB w A m l) :
    Calls Tryz.prog 184 #[.int .i64 kind, .int .i64 n, .slice A m c] w fun e w' => e = .returned (.tuple #[aggB (qt5 kind n l).1, .int .i64 (qt5 kind n l).2]) ∧ Below w.heap.size w w' := by
  unfold qt5
  by_cases h : kind < 1 ∨ 255 < kind ∨ n < 0
  · rw [if_pos h]; exact make_arg kind n A m c w h
  · rw [if_neg h]
    by_cases h2 : 113 < l.length
    · rw [if_pos h2]; exact make_limit kind n A m c w omg omg omg (by rw [← hl.1]; exact h2) hm
    · rw [if_neg h2]; have := make_ok kind n A m c l w omg omg omg (by rw [← hl.1]; omega) hl
      rwa [un_nat omg hn] at this
structure qa3 where
  many : Nat
  kept : List UInt8
  now : List UInt8
  inuse : List Bool
  might : List Bool
  waits : List (Nat × List UInt8)
  room : Int
  cut : Int
  off : Bool
  ops : List Int
structure qa3.Ok (D : qa3) : Prop where
  many0 : 1 ≤ D.many
  many1 : D.many ≤ 4096
  kept : D.kept.length = D.many * 128
  now : D.now.length = D.many * 128
  inuse : D.inuse.length = D.many
  might : D.might.length = D.many
  waits : ∀ p ∈ D.waits, p.1 < D.many ∧ p.2.length = 128
  room : 0 ≤ D.room ∧ D.room ≤ D.many
  cut : -1 ≤ D.cut ∧ D.cut ≤ 9223372036854775807
  few : D.waits.length ≤ 1000000
def qh2 (l : List Bool) : Nat := (l.filter id).length
theorem vg4 (l : List Bool) (k : Nat) (h : k < l.length) : qh2 (l.take (k + 1)) = qh2 (l.take k) + if l.getD k false then 1 else 0 := by
  rw [List.take_succ_eq_append_getElem h]; unfold qh2; rw [List.filter_append, List.length_append, List.getD_eq_getElem?_getD, List.getElem?_eq_getElem h]
  cases l[k] <;> rfl
theorem trues_le (l : List Bool) : qh2 l ≤ l.length := List.length_filter_le _ _
def mayV (D : qa3) (n : Int) : Int := if D.off then 50 else if n < 0 ∨ (D.many : Int) ≤ n then 51 else 0
theorem qp4 {D : qa3} {n : Int} (h : mayV D n = 0) : D.off = false ∧ 0 ≤ n ∧ n < D.many := by
  unfold mayV at h
  cases ho : D.off
  · rw [ho] at h; simp only [Bool.false_eq_true, if_false] at h
    by_cases h1 : n < 0 ∨ (D.many : Int) ≤ n
    · rw [if_pos h1] at h; simp at h
    · exact ⟨rfl, omg, omg⟩
  · rw [ho] at h; simp at h
def qp5 (D : qa3) (kind : Int) : qa3 := { D with off := D.cut == 0, cut := if 0 ≤ D.cut then D.cut - 1 else D.cut, ops := mAdd D.ops kind 1 }
def qc7 (l : List UInt8) (n : Int) : List UInt8 := (l.drop (n.toNat * 128)).take 128
theorem qh8 {l : List UInt8} {n : Int} {s : Nat} (h : l.length = s * 128) (h0 : 0 ≤ n) (h1 : n < s) : (qc7 l n).length = 128 := by
  unfold qc7; rw [List.length_take, List.length_drop, h]; omega
theorem qg6 {α : Type} {l k : List α} {off : Nat} (h : off + k.length ≤ l.length) : (splice l off k).length = l.length := by
  simp [splice]; omega
def putD (D : qa3) (n : Int) (b : List UInt8) : qa3 := { D with waits := D.waits ++ [(n.toNat, b)], now := splice D.now (n.toNat * 128) b, might := D.might.set n.toNat true }
def qz9 (D : qa3) (n : Int) : Bool := !(D.might.getD n.toNat false) && (D.room - (qh2 D.might : Nat) == 0)
def qt1 (D : qa3) : qa3 := { D with ops := mAdd D.ops 1 1 }
def qm8 (D : qa3) (n : Int) (b : List UInt8) : qa3 × Int :=
  if mayV D n ≠ 0 then (D, mayV D n) else if qz9 D n = true then (D, 52) else (qp5 (putD D n b) 2, if D.cut = 0 then 50 else 0)
def qa9 (W : List (Nat × List UInt8)) (k : Nat) : Nat × List UInt8 := W.getD k (0, [])
def qg9 (W : List (Nat × List UInt8)) (s : List UInt8 × List Bool) : Nat → List UInt8 × List Bool
  | 0 => s
  | k + 1 => (splice (qg9 W s k).1 ((qa9 W k).1 * 128) (qa9 W k).2, (qg9 W s k).2.set (qa9 W k).1 true)
def flushD (D : qa3) : qa3 := { D with kept := (qg9 D.waits (D.kept, D.inuse) D.waits.length).1, inuse := (qg9 D.waits (D.kept, D.inuse) D.waits.length).2, waits := [] }
def qc1 (D : qa3) : qa3 × Int := if mayV D 0 ≠ 0 then (D, mayV D 0) else if D.cut = 0 then (qp5 D 3, 50) else (flushD (qp5 D 3), 0)
def qe6 (W : List (Nat × List UInt8)) (cs : List UInt8) (s : List UInt8 × List Bool) : Nat → List UInt8 × List Bool
  | 0 => s
  | k + 1 => (splice (qe6 W cs s k).1 ((qa9 W k).1 * 128) ((qa9 W k).2.take (min (qa2 cs k) 128)), if 0 < qa2 cs k then (qe6 W cs s k).2.set (qa9 W k).1 true else (qe6 W cs s k).2)
def ve9 (D : qa3) (cs : List UInt8) : List UInt8 × List Bool := qe6 D.waits cs (D.kept, D.inuse) (min D.waits.length cs.length)
def qr4 (D : qa3) (cs : List UInt8) : qa3 := { D with kept := (ve9 D cs).1, inuse := (ve9 D cs).2, waits := [], off := false, cut := -1, now := (ve9 D cs).1, might := (ve9 D cs).2 }
def newV (many : Nat) (room : Int) : qa3 := ⟨many, List.replicate (many * 128) 0, List.replicate (many * 128) 0, List.replicate many false, List.replicate many false, [], room, -1, false, [0, 0, 0, 0, 0, 0]⟩
theorem qj4 {D : qa3} (h : D.Ok) {k : Nat} (hk : k < D.waits.length) : (qa9 D.waits k).1 < D.many ∧ (qa9 D.waits k).2.length = 128 := by
  unfold qa9; rw [List.getD_eq_getElem?_getD, List.getElem?_eq_getElem hk]; exact h.waits _ (List.getElem_mem hk)
theorem qu6 {D : qa3} (h : D.Ok) : ∀ k, k ≤ D.waits.length → (qg9 D.waits (D.kept, D.inuse) k).1.length = D.many * 128 ∧ (qg9 D.waits (D.kept, D.inuse) k).2.length = D.many := by
  intro k
  induction k with
  | zero => intro _; exact ⟨h.kept, h.inuse⟩
  | succ k ih =>
    intro hk; obtain ⟨h1, h2⟩ := ih omg; obtain ⟨p1, p2⟩ := qj4 h (show k < D.waits.length by omega); unfold qg9; refine ⟨?_, by rw [List.length_set]; exact h2⟩; rw [qg6 (by rw [h1, p2]; omega)]; exact h1
theorem vi8 {D : qa3} (h : D.Ok) (cs : List UInt8) : ∀ k, k ≤ D.waits.length → (qe6 D.waits cs (D.kept, D.inuse) k).1.length = D.many * 128 ∧ (qe6 D.waits cs (D.kept, D.inuse) k).2.length = D.many := by
  intro k
  induction k with
  | zero => intro _; exact ⟨h.kept, h.inuse⟩
  | succ k ih =>
    intro hk; obtain ⟨h1, h2⟩ := ih omg; obtain ⟨p1, p2⟩ := qj4 h (show k < D.waits.length by omega); unfold qe6; refine ⟨?_, by split; rw [List.length_set]; exact h2; exact h2⟩; rw [qg6 (by rw [h1, List.length_take, p2]; omega)]; exact h1
theorem goesV_ok {D : qa3} (h : D.Ok) (kind : Int) : (qp5 D kind).Ok :=
  ⟨h.many0, h.many1, h.kept, h.now, h.inuse, h.might, h.waits, h.room, by have := h.cut; unfold qp5; simp only; split <;> omega, h.few⟩
theorem putD_ok {D : qa3} (h : D.Ok) {n : Int} (h0 : 0 ≤ n) (h1 : n < D.many) {b : List UInt8} (hb : b.length = 128) (hw : D.waits.length < 1000000) : (putD D n b).Ok := by
  refine ⟨h.many0, h.many1, h.kept, ?_, h.inuse, by simp [putD]; exact h.might, fun p hp => ?_, h.room, h.cut, by simp [putD]; omega⟩
  · unfold putD; simp only; rw [qg6 (by rw [h.now, hb]; omega)]; exact h.now
  · unfold putD at hp; rcases List.mem_append.1 hp with q | q
    · exact h.waits p q
    · obtain rfl : p = (n.toNat, b) := by simpa using q
      exact ⟨by show n.toNat < D.many; omega, hb⟩
theorem flushD_ok {D : qa3} (h : D.Ok) : (flushD D).Ok :=
  ⟨h.many0, h.many1, (qu6 h _ nlr).1, h.now, (qu6 h _ nlr).2, h.might, fun p hp => (by cases hp), h.room, h.cut, by show 0 ≤ 1000000; omega⟩
theorem flushV_ok {D : qa3} (h : D.Ok) : (qc1 D).1.Ok := by
  unfold qc1
  split
  · exact h
  · split
    · exact goesV_ok h 3
    · exact flushD_ok (goesV_ok h 3)
theorem crashV_ok {D : qa3} (h : D.Ok) (cs : List UInt8) : (qr4 D cs).Ok := by
  have hl := vi8 h cs (min D.waits.length cs.length) (Nat.min_le_left _ _); exact ⟨h.many0, h.many1, hl.1, hl.1, hl.2, hl.2, fun p hp => (by cases hp), h.room, ⟨by show (-1 : Int) ≤ -1; omega, by show (-1 : Int) ≤ _; omega⟩, by show 0 ≤ 1000000; omega⟩
theorem newV_ok {many : Nat} {room : Int} (h0 : 1 ≤ many) (h1 : many ≤ 4096) (r0 : 0 ≤ room) (r1 : room ≤ many) : (newV many room).Ok :=
  ⟨h0, h1, by simp [newV], by simp [newV], by simp [newV], by simp [newV], fun p hp => (by cases hp), ⟨r0, r1⟩, ⟨by show (-1 : Int) ≤ -1; omega, by show (-1 : Int) ≤ _; omega⟩, by show 0 ≤ 1000000; omega⟩
theorem pieceAt_app {W : List (Nat × List UInt8)} (x : Nat × List UInt8) : qa9 (W ++ [x]) W.length = x := by
  unfold qa9; rw [List.getD_eq_getElem?_getD, List.getElem?_append_right nlr]; simp
theorem pieceAt_pre {W : List (Nat × List UInt8)} (V : List (Nat × List UInt8)) {k : Nat} (h : k < W.length) : qa9 (W ++ V) k = qa9 W k := by
  unfold qa9; rw [List.getD_eq_getElem?_getD, List.getD_eq_getElem?_getD, List.getElem?_append_left h]
theorem keepK_pre {W : List (Nat × List UInt8)} (V : List (Nat × List UInt8)) (s : List UInt8 × List Bool) : ∀ k, k ≤ W.length → qg9 (W ++ V) s k = qg9 W s k := by
  intro k
  induction k with
  | zero => intro _; rfl
  | succ k ih => intro h; unfold qg9; rw [ih omg, pieceAt_pre V omg]
theorem keepK_app (W : List (Nat × List UInt8)) (x : Nat × List UInt8) (s : List UInt8 × List Bool) : qg9 (W ++ [x]) s (W ++ [x]).length = (splice (qg9 W s W.length).1 (x.1 * 128) x.2, (qg9 W s W.length).2.set x.1 true) := by
  rw [List.length_append, List.length_singleton]
  show (splice (qg9 (W ++ [x]) s W.length).1 _ _, _) = _
  rw [keepK_pre [x] s _ nlr, pieceAt_app]
structure Calm (D : qa3) : Prop where
  ok : D.Ok
  cut : D.cut = -1
  off : D.off = false
  room : D.room = D.many
  now : D.now = (qg9 D.waits (D.kept, D.inuse) D.waits.length).1
  might : D.might = (qg9 D.waits (D.kept, D.inuse) D.waits.length).2
theorem ql0 {l k : List UInt8} {off : Nat} (h : off + k.length ≤ l.length) (q : Nat) : qa2 (splice l off k) q = if off ≤ q ∧ q < off + k.length then qa2 k (q - off) else qa2 l q := by
  unfold qa2 splice; rw [List.getD_eq_getElem?_getD, List.getD_eq_getElem?_getD, List.getD_eq_getElem?_getD]; have ht : (l.take off).length = off := by rw [List.length_take]; omega
  rcases Nat.lt_or_ge q off with h1 | h1
  · rw [if_neg omg, List.getElem?_append_left omg, List.getElem?_take, if_pos h1]
  · rw [List.getElem?_append_right omg, ht]; rcases Nat.lt_or_ge q (off + k.length) with h2 | h2
    · rw [if_pos ⟨h1, h2⟩, List.getElem?_append_left omg]
    · rw [if_neg omg, List.getElem?_append_right omg, List.getElem?_drop, show off + k.length + (q - off - k.length) = q by omega]
theorem byteAt_take' {l : List UInt8} {n i : Nat} (h : i < n) : qa2 (l.take n) i = qa2 l i := by
  unfold qa2; rw [List.getD_eq_getElem?_getD, List.getD_eq_getElem?_getD, List.getElem?_take, if_pos h]
theorem qh6 {l : List UInt8} {n i : Nat} (h : i < 128) : qa2 (qc7 l (n : Int)) i = qa2 l (n * 128 + i) := by
  unfold qc7; rw [byteAt_take' h]; unfold qa2; rw [List.getD_eq_getElem?_getD, List.getD_eq_getElem?_getD, List.getElem?_drop, Int.toNat_natCast]
end Go.Proofs.YtpmkpckldnnigaaGreat
