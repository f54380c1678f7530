/- Contracts of the package of sealed sectors: Make of what may be sealed. -/
import Derived.Test.YtninidpbchcliaaSealA
namespace Go.Proofs.Ytninidpbchcliaa
open Go.RowKit

theorem le4_cells (s : Nat) (hs : s < 4294967296) : (le4 s).map bv = [.int .u8 ((s : Int) % 256), .int .u8 ((s : Int) / 256 % 256), .int .u8 ((s : Int) / 65536 % 256), .int .u8 ((s : Int) / 16777216)] := by
  have e : ∀ v : Nat, v < 256 → bv (UInt8.ofNat v) = .int .u8 (v : Int) := fun v hv => bv_ofNat hv
  show [bv (UInt8.ofNat (s / 256 ^ 0 % 256)), bv (UInt8.ofNat (s / 256 ^ 1 % 256)), bv (UInt8.ofNat (s / 256 ^ 2 % 256)), bv (UInt8.ofNat (s / 256 ^ 3 % 256))] = _
  rw [e _ (by omega), e _ (by omega), e _ (by omega), e _ (by omega)]
  have h0 : ((s / 256 ^ 0 % 256 : Nat) : Int) = (s : Int) % 256 := by omega
  have h1 : ((s / 256 ^ 1 % 256 : Nat) : Int) = (s : Int) / 256 % 256 := by omega
  have h2 : ((s / 256 ^ 2 % 256 : Nat) : Int) = (s : Int) / 65536 % 256 := by omega
  have h3 : ((s / 256 ^ 3 % 256 : Nat) : Int) = (s : Int) / 16777216 := by omega
  rw [h0, h1, h2, h3]
theorem bytes_le (s : Nat) (w : World) (hs : s < 4294967296) : Calls Try.prog 99 #[.int .u32 s] w fun e w' => e = .returned (aggB (le4 s)) ∧ Below w.heap.size w w' := by
  have H := Lib.hid (le4_cells s hs)
  go_enter Try.func99, Try.ntmps99
  go_wp2
  refine bodyPost_ret (v := .agg #[.int .u8 ((s : Int) % 256), .int .u8 ((s : Int) / 256 % 256), .int .u8 ((s : Int) / 65536 % 256), .int .u8 ((s : Int) / 16777216)]) (by simp [results, Try.results99, go_sem]) rfl ?_
  refine ⟨?_, (by (repeat' (first | (with_reducible exact Below.refl _ _) | (with_reducible assumption) | (with_reducible refine Below.drew ?_) | (with_reducible refine below_drewN ?_ _) | (with_reducible refine Below.alloc ?_ ?_ _) | (with_reducible refine Below.setCell ?_ ?_ _) | omega | (simp; done) | (simp; omega))))⟩
  unfold aggB
  rw [H.out]
theorem size4 : (Try.prog.info? 175).map (·.size) = some 4 := by kernel_rfl

set_option maxRecDepth 100000 in
set_option maxHeartbeats 1000000 in
theorem make_ok (kind n : Int) (A : Option Addr) (m c : Nat) (l : List UInt8) (w : World) (h1 : 1 ≤ kind) (h2 : kind ≤ 255) (h3 : 0 ≤ n) (h4 : m ≤ 113) (hl : RB w A m l) :
    Calls Try.prog 84 #[.int .i64 kind, .int .i64 n, .slice A m c] w fun e w' => e = .returned (.tuple #[aggB (sealL kind.toNat (un n) l), .int .i64 0]) ∧ Below w.heap.size w w' := by
  have hz := (zero_of_info zero128).1
  have hi := (zero_of_info zero128).2
  have hlz : (zerosL.map bv).length = 128 := by simp [zerosL_len]
  have h1 := mem_bv (l := zerosL)
  have c0 : (zerosL.map bv)[0]? = some (.int .u8 0) := rfl
  have c9 : (zerosL.map bv)[9]? = some (.int .u8 0) := rfl
  have c127 : (zerosL.map bv)[127]? = some (.int .u8 0) := rfl
  generalize hR : aggB (sealL kind.toNat (un n) l) = R
  have HR := Lib.hid hR
  clear hR
  unfold aggB at *
  generalize hZ : zerosL.map bv = Z at *
  have HZ := Lib.hid hZ.symm
  clear hZ
  have Hl := Lib.hid hlz
  have Hi := Lib.hid hi
  have H1 := Lib.hid h1
  clear hlz hi h1
  obtain ⟨L1, hL1⟩ : ∃ L1 : List UInt8, L1 = ((zerosL.set 0 (UInt8.ofNat kind.toNat)).set 9 (UInt8.ofNat m)).set 127 215 := ⟨_, rfl⟩
  have hZ1 : Hid (((Z.set 0 (.int .u8 kind)).set 9 (.int .u8 (m : Int))).set 127 (.int .u8 215) = L1.map bv) := by
    show _ = _
    rw [hL1, HZ.out, List.map_set, List.map_set, List.map_set]
    congr 2
    · congr 1
      rw [bv_ofNat (by omega)]; congr 1; omega
    · rw [bv_ofNat (by omega)]
  have hlen1 : Hid (L1.length = 128) := by show _ = _; rw [hL1]; simp [zerosL_len]
  obtain ⟨L2, hL2'⟩ : ∃ L2 : List UInt8, L2 = splice L1 1 (putL (un n)) := ⟨_, rfl⟩
  have hL2 : Hid (splice L1 1 ((putL (un n)).take 8) = L2) := by show _ = _; rw [hL2', List.take_of_length_le (by rw [putL_len]; omega)]
  have hlen2 : Hid (L2.length = 128) := by show _ = _; rw [hL2', length_splice _ _ _ (by rw [putL_len, hlen1.out]; omega), hlen1.out]
  obtain ⟨L3, hL3'⟩ : ∃ L3 : List UInt8, L3 = splice L2 10 l := ⟨_, rfl⟩
  have hL3 : Hid (splice L2 10 (l.take 113) = L3) := by show _ = _; rw [hL3', List.take_of_length_le (by rw [hl.1]; omega)]
  have hlen3 : Hid (L3.length = 128) := by show _ = _; rw [hL3', length_splice _ _ _ (by rw [hl.1, hlen2.out]; omega), hlen2.out]
  have hL3b : L3 = sealBody kind.toNat (un n) l ++ ([0, 0, 0, 0] ++ [215]) := by
    have h4' : l.length ≤ 113 := by rw [hl.1]; exact h4
    rw [hL3', hL2', hL1, seal_L3 _ _ _ _ (putL_len _) h4', ← seal_L3_body _ _ _ h4', hl.1]
  have hL4 : Hid (splice L3 123 (le4 (crcSum [L3.take 123])) = sealL kind.toNat (un n) l) := by
    show _ = _
    have h4' : l.length ≤ 113 := by rw [hl.1]; exact h4
    rw [hL3b, seal_L3_take _ _ _ h4', seal_L4 _ _ _ h4']
  have hlen4 : Hid ((sealL kind.toNat (un n) l).length = 128) := sealL_len _ _ _ (by rw [hl.1]; exact h4)
  clear hL3b
  have hsum := crcSum_lt [L3.take 123]
  clear hL1 hL2' hL3'
  have hsumc := fun a n c w => sum_any a n c [L3.take 123] w
  generalize crcSum [L3.take 123] = S at *
  go_enter Try.func84, Try.ntmps84
  go_wp2_with fail
  refine code_world (fun W => Blk W w.heap.size 33 Z ∧ BlkB W (w.heap.size + 1) 33 L1 ∧ Below w.heap.size w W ∧ W.heap.size = w.heap.size + 2) ⟨(by (repeat' (first | (with_reducible assumption) | (with_reducible refine Blk.top _ (by first | rfl | omega | (simp; done) | (simp; omega)) rfl) | (with_reducible refine Blk.alloc ?_ _) | (with_reducible refine Blk.drew ?_) | (with_reducible refine Blk.drewN ?_ _) | (with_reducible refine Blk.far ?_ (by first | omega | (simp; done) | (simp; omega)) _)))), by unfold BlkB; rw [← hZ1.out]; exact (by (repeat' (first | (with_reducible assumption) | (with_reducible refine Blk.top _ (by first | rfl | omega | (simp; done) | (simp; omega)) rfl) | (with_reducible refine Blk.alloc ?_ _) | (with_reducible refine Blk.drew ?_) | (with_reducible refine Blk.drewN ?_ _) | (with_reducible refine Blk.far ?_ (by first | omega | (simp; done) | (simp; omega)) _)))), (by (repeat' (first | (with_reducible exact Below.refl _ _) | (with_reducible assumption) | (with_reducible refine Below.drew ?_) | (with_reducible refine below_drewN ?_ _) | (with_reducible refine Below.alloc ?_ ?_ _) | (with_reducible refine Below.setCell ?_ ?_ _) | omega | (simp; done) | (simp; omega)))), by simp⟩ ?_
  rintro W1 ⟨hb6, hb8, hB1, hs1⟩
  go_region_held3 (fun _ => True) (trivial) (first
    | ((go_at_call 101; (with_reducible refine (put_any _ _).mono ?_); rintro e w2 ⟨B, d, rfl, hown2, hB2⟩))
    | (refine step_copy_rd rfl (d := .tmp 35) (s := .tmp 37) rfl elemU8 bv_one (g := w.heap.size + 1) (off := 1) (l := L1) (k := putL (un n)) rfl rfl (fun _ => rfl) (hb8.drew.below hB2 hb8.lt) hown2.rd (by rw [hlen1.out]; omega) hL2.out ?_; intro w3 hb3 hg3 hs3))
  have hs2 : w.heap.size + 2 ≤ w2.heap.size := by have := hB2.size; simp at this; omega
  have hB3 : Below w.heap.size w w3 := below_of_only (below_then hB1.drew hB2 (by simp; omega)) hg3 (by omega) (by omega)
  have hb6' : Blk w3 w.heap.size 33 Z := (hb6.drew.below hB2 hb6.lt).grown hg3 (by simp)
  have hl3 : RB w3 A m l := hl.below hB3 (Nat.le_refl _)
  replace hs3 : w.heap.size + 2 ≤ w3.heap.size := by omega
  replace hb3 : BlkB w3 (w.heap.size + 1) 33 L2 := hb3
  clear hb6 hb8 hB1 hB2 hown2 hg3
  go_wp2_with (first
    | (refine wpList_copy_rd rfl (d := .tmp 39) (s := .tmp 40) rfl elemU8 bv_one (g := w.heap.size + 1) (off := 10) (l := L2) (k := l) rfl rfl (fun _ => rfl) hb3 hl3.rd (by rw [hlen2.out]; omega) hL3.out ?_; intro w4 hb4 hg4 hs4)
    | (go_at_call 100; (with_reducible refine (hsumc _ _ _ _ (RBs.one (heap_top _ _ (by omega)) (BlkB.rb (off := 0) (hb4.alloc _) rfl (by rw [hlen3.out]; omega)) (by decide)) (by decide)).mono ?_); rintro e w5 ⟨rfl, rfl⟩)
    | (go_at_call 99; (with_reducible refine (bytes_le S _ hsum).mono ?_); rintro e w6 ⟨rfl, hB6⟩)
    | (refine wpList_store_arr rfl (x := .tmp 9) (y := .tmp 45) rfl rfl rfl (t := 175) (cs := [.int .u8 0, .int .u8 0, .int .u8 0, .int .u8 0]) (xs := (le4 S).map bv) (Blk.top _ rfl rfl) size4 (by simp [le4_len]) (by simp) mem_bv ?_; intro w7 hb7 hg7 hs7))
  have hs6 := hB6.size
  simp only [World.size_alloc] at hs6 hs7
  have e4 : BlkB w7 w6.heap.size 175 (le4 S) := by
    unfold BlkB
    have := hb7
    rwa [splice_all _ _ (by simp [le4_len])] at this
  have e5 : Rd bv w7 (some ⟨w6.heap.size, 0, none⟩) 4 (le4 S) := (e4.rb (off := 0) (by rw [List.drop_zero, List.take_of_length_le (by rw [le4_len]; omega)]) (by rw [le4_len]; omega)).rd
  have hL5 : Hid (splice L3 123 ((le4 S).take 4) = sealL kind.toNat (un n) l) := by show _ = _; rw [List.take_of_length_le (by rw [le4_len]; omega), hL4.out]
  have k8 : BlkB w7 (w.heap.size + 1) 33 L3 := (((hb4.alloc _).below hB6 (by simp; omega)).alloc _).grown hg7 (by simp; omega)
  have k6 : Blk w7 w.heap.size 33 Z := ((((hb6'.grown hg4 (by simp)).alloc _).below hB6 (by simp; omega)).alloc _).grown hg7 (by simp; omega)
  have hB7 : Below w.heap.size w w7 := by
    refine below_of_only (Below.alloc (below_then' (below_of_only hB3 hg4 (by omega) (by omega)) (w' := w6) (C := w.heap.size) ?_ (Nat.le_refl _)) (by omega) _) hg7 (by simp; omega) (by omega)
    exact Below.trans ((Below.refl _ _).alloc (by omega) _) (hB6.mono (by simp; omega))
  have hs7' : w.heap.size + 2 < w7.heap.size := by omega
  clear hb7 hg7 hs7 hB6 hg4 hb4 hs4 hb3 hl3 hb6' hB3 hsumc hs6
  go_region_held3 (fun _ => True) (trivial) ((refine step_copy_rd rfl (d := .tmp 46) (s := .tmp 47) rfl elemU8 bv_one (g := w.heap.size + 1) (off := 123) (l := L3) (k := le4 S) rfl rfl (fun _ => rfl) k8.drew e5.drew' (by rw [hlen3.out]; omega) hL5.out ?_; intro w8 hb8 hg8 hs8))
  replace hB7 : Below w.heap.size w w8 := below_of_only hB7.drew hg8 (by simp; omega) (by omega)
  have k6' : Blk w8 w.heap.size 33 Z := k6.drew.grown hg8 (by simp)
  generalize sealL kind.toNat (un n) l = L4 at *
  have hlen4' : Hid ((L4.map bv).length = 128) := by show _ = _; rw [List.length_map, hlen4.out]
  have hm4 := Lib.hid (mem_bv (l := L4))
  generalize L4.map bv = C4 at *
  replace hs8 : w.heap.size + 2 < w8.heap.size := by have : w7.drew.heap.size = w7.heap.size := rfl; omega
  clear k6 k8 hg8 e4 e5 hL4 hL5 hL2 hL3 hZ1 HZ c0 c9 c127
  go_wp2_with (first
    | (refine wpList_load_arr rfl (x := .tmp 8) rfl rfl (t := 33) (cs := C4) hb8 Try.underlying33 Hi.out hlen4'.out (xs := C4) (by rw [List.drop_zero, List.take_of_length_le (by rw [hlen4'.out]; omega)]) ?_)
    | (refine wpList_store_arr rfl (x := .tmp 6) (y := .tmp 49) rfl rfl rfl (t := 33) (cs := Z) (xs := C4) k6' Hi.out hlen4'.out (by rw [Hl.out]; omega) hm4.out ?_; intro w9 hb9 hg9 hs9))
  refine bodyPost_ret (v := .tuple #[.agg C4.toArray, .int .i64 0]) (results_arr_tmp Try.results84 _ rfl rfl (by rw [splice_all _ _ (by rw [Hl.out, hlen4'.out])] at hb9; exact hb9) Try.underlying33 Hi.out hlen4'.out) rfl ?_
  exact ⟨by rw [HR.out], below_of_only hB7 hg9 (by omega) (Nat.le_refl _)⟩
end Go.Proofs.Ytninidpbchcliaa
