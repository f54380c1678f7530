/- Parts: SealB. -/
import Derived.Test.YtalmdccgpigppaaPr15
import Derived.Test.YtalmdccgpigppaaPr01
namespace Go.Proofs.Ytalmdccgpigppaa
open Go.RowKit

theorem le4_cells (s : Nat) (hs : s < 4294967296) : (le4 s).map bv = [.int .u8 ((s : Int) % 256), .int .u8 ((s : Int) / 256 % 256), .int .u8 ((s : Int) / 65536 % 256), .int .u8 ((s : Int) / 16777216)] := by
  have e : ∀ v : Nat, v < 256 → bv (UInt8.ofNat v) = .int .u8 (v : Int) := fun v hv => bv_ofNat hv
  show [bv (UInt8.ofNat (s / 256 ^ 0 % 256)), bv (UInt8.ofNat (s / 256 ^ 1 % 256)), bv (UInt8.ofNat (s / 256 ^ 2 % 256)), bv (UInt8.ofNat (s / 256 ^ 3 % 256))] = _
  rw [e _ (by omega), e _ (by omega), e _ (by omega), e _ (by omega)]
  have h0 : ((s / 256 ^ 0 % 256 : Nat) : Int) = (s : Int) % 256 := by omega
  have h1 : ((s / 256 ^ 1 % 256 : Nat) : Int) = (s : Int) / 256 % 256 := by omega
  have h2 : ((s / 256 ^ 2 % 256 : Nat) : Int) = (s : Int) / 65536 % 256 := by omega
  have h3 : ((s / 256 ^ 3 % 256 : Nat) : Int) = (s : Int) / 16777216 := by omega
  rw [h0, h1, h2, h3]
theorem bytes_le (s : Nat) (w : World) (hs : s < 4294967296) : Calls Try.prog 53 #[.int .u32 s] w fun e w' => e = .returned (aggB (le4 s)) ∧ Below w.heap.size w w' := by
  have H := Lib.hid (le4_cells s hs)
  go_enter Try.func53, Try.ntmps53
  go_wp2
  refine bodyPost_ret (v := .agg #[.int .u8 ((s : Int) % 256), .int .u8 ((s : Int) / 256 % 256), .int .u8 ((s : Int) / 65536 % 256), .int .u8 ((s : Int) / 16777216)]) (by simp [results, Try.results53, go_sem]) rfl ?_
  refine ⟨?_, (by (repeat' (first | (with_reducible exact Below.refl _ _) | (with_reducible assumption) | (with_reducible refine Below.drew ?_) | (with_reducible refine below_drewN ?_ _) | (with_reducible refine Below.alloc ?_ ?_ _) | (with_reducible refine Below.setCell ?_ ?_ _) | omega | (simp; done) | (simp; omega))))⟩
  unfold aggB
  rw [H.out]
theorem size4 : (Try.prog.info? 122).map (·.size) = some 4 := by kernel_rfl

set_option maxRecDepth 100000 in
set_option maxHeartbeats 1000000 in
theorem make_ok (kind n : Int) (A : Option Addr) (m c : Nat) (l : List UInt8) (w : World) (h1 : 1 ≤ kind) (h2 : kind ≤ 255) (h3 : 0 ≤ n) (h4 : m ≤ 113) (hl : RB w A m l) :
    Calls Try.prog 86 #[.int .i64 kind, .int .i64 n, .slice A m c] w fun e w' => e = .returned (.tuple #[aggB (sealL kind.toNat (un n) l), .int .i64 0]) ∧ Below w.heap.size w w' := by
  have hz := (zero_of_info zero128).1
  have hi := (zero_of_info zero128).2
  have hlz : (zerosL.map bv).length = 128 := by simp [zerosL_len]
  have h1 := mem_bv (l := zerosL)
  have c0 : (zerosL.map bv)[0]? = some (.int .u8 0) := rfl
  have c9 : (zerosL.map bv)[9]? = some (.int .u8 0) := rfl
  have c127 : (zerosL.map bv)[127]? = some (.int .u8 0) := rfl
  generalize hR : aggB (sealL kind.toNat (un n) l) = R
  have HR := Lib.hid hR
  clear hR
  unfold aggB at *
  generalize hZ : zerosL.map bv = Z at *
  have HZ := Lib.hid hZ.symm
  clear hZ
  have Hl := Lib.hid hlz
  have Hi := Lib.hid hi
  have H1 := Lib.hid h1
  clear hlz hi h1
  obtain ⟨L1, hL1⟩ : ∃ L1 : List UInt8, L1 = ((zerosL.set 0 (UInt8.ofNat kind.toNat)).set 9 (UInt8.ofNat m)).set 127 215 := ⟨_, rfl⟩
  have hZ1 : Hid (((Z.set 0 (.int .u8 kind)).set 9 (.int .u8 (m : Int))).set 127 (.int .u8 215) = L1.map bv) := by
    show _ = _
    rw [hL1, HZ.out, List.map_set, List.map_set, List.map_set]
    congr 2
    · congr 1
      rw [bv_ofNat (by omega)]; congr 1; omega
    · rw [bv_ofNat (by omega)]
  have hlen1 : Hid (L1.length = 128) := by show _ = _; rw [hL1]; simp [zerosL_len]
  obtain ⟨L2, hL2'⟩ : ∃ L2 : List UInt8, L2 = splice L1 1 (putL (un n)) := ⟨_, rfl⟩
  have hL2 : Hid (splice L1 1 ((putL (un n)).take 8) = L2) := by show _ = _; rw [hL2', List.take_of_length_le (by rw [putL_len]; omega)]
  have hlen2 : Hid (L2.length = 128) := by show _ = _; rw [hL2', length_splice _ _ _ (by rw [putL_len, hlen1.out]; omega), hlen1.out]
  obtain ⟨L3, hL3'⟩ : ∃ L3 : List UInt8, L3 = splice L2 10 l := ⟨_, rfl⟩
  have hL3 : Hid (splice L2 10 (l.take 113) = L3) := by show _ = _; rw [hL3', List.take_of_length_le (by rw [hl.1]; omega)]
  have hlen3 : Hid (L3.length = 128) := by show _ = _; rw [hL3', length_splice _ _ _ (by rw [hl.1, hlen2.out]; omega), hlen2.out]
  have hL3b : L3 = sealBody kind.toNat (un n) l ++ ([0, 0, 0, 0] ++ [215]) := by
    have h4' : l.length ≤ 113 := by rw [hl.1]; exact h4
    rw [hL3', hL2', hL1, seal_L3 _ _ _ _ (putL_len _) h4', ← seal_L3_body _ _ _ h4', hl.1]
  have hL4 : Hid (splice L3 123 (le4 (crcSum [L3.take 123])) = sealL kind.toNat (un n) l) := by
    show _ = _
    have h4' : l.length ≤ 113 := by rw [hl.1]; exact h4
    rw [hL3b, seal_L3_take _ _ _ h4', seal_L4 _ _ _ h4']
  have hlen4 : Hid ((sealL kind.toNat (un n) l).length = 128) := sealL_len _ _ _ (by rw [hl.1]; exact h4)
  clear hL3b
  have hsum := crcSum_lt [L3.take 123]
  clear hL1 hL2' hL3'
  have hsumc := fun a n c w => sum_any a n c [L3.take 123] w
  generalize crcSum [L3.take 123] = S at *
  go_enter Try.func86, Try.ntmps86
  go_wp2_with fail
  refine code_world (fun W => Blk W w.heap.size 128 Z ∧ BlkB W (w.heap.size + 1) 128 L1 ∧ Below w.heap.size w W ∧ W.heap.size = w.heap.size + 2) ⟨(by (repeat' (first | (with_reducible assumption) | (with_reducible refine Blk.top _ (by first | rfl | omega | (simp; done) | (simp; omega)) rfl) | (with_reducible refine Blk.alloc ?_ _) | (with_reducible refine Blk.drew ?_) | (with_reducible refine Blk.drewN ?_ _) | (with_reducible refine Blk.far ?_ (by first | omega | (simp; done) | (simp; omega)) _)))), by unfold BlkB; rw [← hZ1.out]; exact (by (repeat' (first | (with_reducible assumption) | (with_reducible refine Blk.top _ (by first | rfl | omega | (simp; done) | (simp; omega)) rfl) | (with_reducible refine Blk.alloc ?_ _) | (with_reducible refine Blk.drew ?_) | (with_reducible refine Blk.drewN ?_ _) | (with_reducible refine Blk.far ?_ (by first | omega | (simp; done) | (simp; omega)) _)))), (by (repeat' (first | (with_reducible exact Below.refl _ _) | (with_reducible assumption) | (with_reducible refine Below.drew ?_) | (with_reducible refine below_drewN ?_ _) | (with_reducible refine Below.alloc ?_ ?_ _) | (with_reducible refine Below.setCell ?_ ?_ _) | omega | (simp; done) | (simp; omega)))), by simp⟩ ?_
  rintro W1 ⟨hb6, hb8, hB1, hs1⟩
  go_region_held3 (fun _ => True) (trivial) (first
    | ((go_at_call 56; (with_reducible refine (put_any _ _).mono ?_); rintro e w2 ⟨B, d, rfl, hown2, hB2⟩))
    | (refine step_copy_rd rfl (d := .tmp 35) (s := .tmp 37) rfl elemU8 bv_one (g := w.heap.size + 1) (off := 1) (l := L1) (k := putL (un n)) rfl rfl (fun _ => rfl) (hb8.drew.below hB2 hb8.lt) hown2.rd (by rw [hlen1.out]; omega) hL2.out ?_; intro w3 hb3 hg3 hs3))
  have hs2 : w.heap.size + 2 ≤ w2.heap.size := by have := hB2.size; simp at this; omega
  have hB3 : Below w.heap.size w w3 := below_of_only (below_then hB1.drew hB2 (by simp; omega)) hg3 (by omega) (by omega)
  have hb6' : Blk w3 w.heap.size 128 Z := (hb6.drew.below hB2 hb6.lt).grown hg3 (by simp)
  have hl3 : RB w3 A m l := hl.below hB3 (Nat.le_refl _)
  replace hs3 : w.heap.size + 2 ≤ w3.heap.size := by omega
  replace hb3 : BlkB w3 (w.heap.size + 1) 128 L2 := hb3
  clear hb6 hb8 hB1 hB2 hown2 hg3
  go_wp2_with (first
    | (refine wpList_copy_rd rfl (d := .tmp 39) (s := .tmp 40) rfl elemU8 bv_one (g := w.heap.size + 1) (off := 10) (l := L2) (k := l) rfl rfl (fun _ => rfl) hb3 hl3.rd (by rw [hlen2.out]; omega) hL3.out ?_; intro w4 hb4 hg4 hs4)
    | (go_at_call 54; (with_reducible refine (hsumc _ _ _ _ (RBs.one (heap_top _ _ (by omega)) (BlkB.rb (off := 0) (hb4.alloc _) rfl (by rw [hlen3.out]; omega)) (by decide)) (by decide)).mono ?_); rintro e w5 ⟨rfl, rfl⟩)
    | (go_at_call 53; (with_reducible refine (bytes_le S _ hsum).mono ?_); rintro e w6 ⟨rfl, hB6⟩)
    | (refine wpList_store_arr rfl (x := .tmp 9) (y := .tmp 45) rfl rfl rfl (t := 122) (cs := [.int .u8 0, .int .u8 0, .int .u8 0, .int .u8 0]) (xs := (le4 S).map bv) (Blk.top _ rfl rfl) size4 (by simp [le4_len]) (by simp) mem_bv ?_; intro w7 hb7 hg7 hs7))
  have hs6 := hB6.size
  simp only [World.size_alloc] at hs6 hs7
  have e4 : BlkB w7 w6.heap.size 122 (le4 S) := by
    unfold BlkB
    have := hb7
    rwa [splice_all _ _ (by simp [le4_len])] at this
  have e5 : Rd bv w7 (some ⟨w6.heap.size, 0, none⟩) 4 (le4 S) := (e4.rb (off := 0) (by rw [List.drop_zero, List.take_of_length_le (by rw [le4_len]; omega)]) (by rw [le4_len]; omega)).rd
  have hL5 : Hid (splice L3 123 ((le4 S).take 4) = sealL kind.toNat (un n) l) := by show _ = _; rw [List.take_of_length_le (by rw [le4_len]; omega), hL4.out]
  have k8 : BlkB w7 (w.heap.size + 1) 128 L3 := (((hb4.alloc _).below hB6 (by simp; omega)).alloc _).grown hg7 (by simp; omega)
  have k6 : Blk w7 w.heap.size 128 Z := ((((hb6'.grown hg4 (by simp)).alloc _).below hB6 (by simp; omega)).alloc _).grown hg7 (by simp; omega)
  have hB7 : Below w.heap.size w w7 := by
    refine below_of_only (Below.alloc (below_then' (below_of_only hB3 hg4 (by omega) (by omega)) (w' := w6) (C := w.heap.size) ?_ (Nat.le_refl _)) (by omega) _) hg7 (by simp; omega) (by omega)
    exact Below.trans ((Below.refl _ _).alloc (by omega) _) (hB6.mono (by simp; omega))
  have hs7' : w.heap.size + 2 < w7.heap.size := by omega
  clear hb7 hg7 hs7 hB6 hg4 hb4 hs4 hb3 hl3 hb6' hB3 hsumc hs6
  go_region_held3 (fun _ => True) (trivial) ((refine step_copy_rd rfl (d := .tmp 46) (s := .tmp 47) rfl elemU8 bv_one (g := w.heap.size + 1) (off := 123) (l := L3) (k := le4 S) rfl rfl (fun _ => rfl) k8.drew e5.drew' (by rw [hlen3.out]; omega) hL5.out ?_; intro w8 hb8 hg8 hs8))
  replace hB7 : Below w.heap.size w w8 := below_of_only hB7.drew hg8 (by simp; omega) (by omega)
  have k6' : Blk w8 w.heap.size 128 Z := k6.drew.grown hg8 (by simp)
  generalize sealL kind.toNat (un n) l = L4 at *
  have hlen4' : Hid ((L4.map bv).length = 128) := by show _ = _; rw [List.length_map, hlen4.out]
  have hm4 := Lib.hid (mem_bv (l := L4))
  generalize L4.map bv = C4 at *
  replace hs8 : w.heap.size + 2 < w8.heap.size := by have : w7.drew.heap.size = w7.heap.size := rfl; omega
  clear k6 k8 hg8 e4 e5 hL4 hL5 hL2 hL3 hZ1 HZ c0 c9 c127
  go_wp2_with (first
    | (refine wpList_load_arr rfl (x := .tmp 8) rfl rfl (t := 128) (cs := C4) hb8 Try.underlying128 Hi.out hlen4'.out (xs := C4) (by rw [List.drop_zero, List.take_of_length_le (by rw [hlen4'.out]; omega)]) ?_)
    | (refine wpList_store_arr rfl (x := .tmp 6) (y := .tmp 49) rfl rfl rfl (t := 128) (cs := Z) (xs := C4) k6' Hi.out hlen4'.out (by rw [Hl.out]; omega) hm4.out ?_; intro w9 hb9 hg9 hs9))
  refine bodyPost_ret (v := .tuple #[.agg C4.toArray, .int .i64 0]) (results_arr_tmp Try.results86 _ rfl rfl (by rw [splice_all _ _ (by rw [Hl.out, hlen4'.out])] at hb9; exact hb9) Try.underlying128 Hi.out hlen4'.out) rfl ?_
  exact ⟨by rw [HR.out], below_of_only hB7 hg9 (by omega) (Nat.le_refl _)⟩
end Go.Proofs.Ytalmdccgpigppaa
namespace Go.Proofs.Ytalmdccgpigppaa
open Go.RowKit

theorem eq128 (l k : List UInt8) (hl : l.length = 128) (hk : k.length = 128) (w : World) : (Op.equalIn 10000 128 (.agg (l.map bv).toArray) (.agg (k.map bv).toArray)).run Try.prog w = .ok (decide (l = k)) w :=
  run_eq_bytes Try.underlying128 Try.underlying5 (by kernel_rfl) (by kernel_rfl) (by kernel_rfl) l k hl hk

theorem cellB {l : List UInt8} (i : Nat) (hi : i < l.length) : (l.map bv)[i]? = some (.int .u8 (byteAt l i)) := by
  unfold byteAt bv; simp [List.getD_eq_getElem?_getD, hi]

def OpenBad (l : List UInt8) (kind : Int) : Prop := byteAt l 127 ≠ 215 ∨ (byteAt l 127 = 215 ∧ (byteAt l 0 : Int) ≠ kind) ∨ (byteAt l 127 = 215 ∧ (byteAt l 0 : Int) = kind ∧ 113 < byteAt l 9)

set_option maxRecDepth 100000 in
set_option maxHeartbeats 1000000 in
theorem open_bad (l : List UInt8) (kind : Int) (w : World) (hl : l.length = 128) (h : OpenBad l kind) :
    Calls Try.prog 77 #[aggB l, .int .i64 kind] w fun e w' => e = .returned (.tuple #[.int .i64 0, .slice none 0 0, .int .i64 53]) ∧ Below w.heap.size w w' := by
  have c0 := cellB (l := l) 0 (by omega)
  have c9 := cellB (l := l) 9 (by omega)
  have c127 := cellB (l := l) 127 (by omega)
  have b0 := byteAt_lt l 0
  have b9 := byteAt_lt l 9
  unfold OpenBad at h
  unfold aggB
  generalize l.map bv = C at *
  generalize byteAt l 0 = y0 at *
  generalize byteAt l 9 = y9 at *
  generalize byteAt l 127 = y127 at *
  clear hl
  rcases h with h | ⟨h, h2⟩ | ⟨h, h2, h3⟩
  · have e1 : (((y127 : Nat) : Int) != 215) = true := by rw [bne_iff_ne]; omega
    clear h
    go_enter Try.func77, Try.ntmps77
    go_wp2
    go_ret3
    exact ⟨rfl, (by (repeat' (first | (with_reducible exact Below.refl _ _) | (with_reducible assumption) | (with_reducible refine Below.drew ?_) | (with_reducible refine below_drewN ?_ _) | (with_reducible refine Below.alloc ?_ ?_ _) | (with_reducible refine Below.setCell ?_ ?_ _) | omega | (simp; done) | (simp; omega))))⟩
  · have e1 : (((y127 : Nat) : Int) != 215) = false := by rw [h]; rfl
    have e2 : (((y0 : Nat) : Int) != kind) = true := by rw [bne_iff_ne]; exact h2
    clear h h2
    go_enter Try.func77, Try.ntmps77
    go_wp2
    go_ret3
    exact ⟨rfl, (by (repeat' (first | (with_reducible exact Below.refl _ _) | (with_reducible assumption) | (with_reducible refine Below.drew ?_) | (with_reducible refine below_drewN ?_ _) | (with_reducible refine Below.alloc ?_ ?_ _) | (with_reducible refine Below.setCell ?_ ?_ _) | omega | (simp; done) | (simp; omega))))⟩
  · have e1 : (((y127 : Nat) : Int) != 215) = false := by rw [h]; rfl
    have e2 : (((y0 : Nat) : Int) != kind) = false := by rw [h2]; simp
    have e3 : decide ((113 : Int) < ((y9 : Nat) : Int)) = true := by simp; omega
    clear h h2
    go_enter Try.func77, Try.ntmps77
    go_wp2
    go_ret3
    exact ⟨rfl, (by (repeat' (first | (with_reducible exact Below.refl _ _) | (with_reducible assumption) | (with_reducible refine Below.drew ?_) | (with_reducible refine below_drewN ?_ _) | (with_reducible refine Below.alloc ?_ ?_ _) | (with_reducible refine Below.setCell ?_ ?_ _) | omega | (simp; done) | (simp; omega))))⟩

theorem RB.nil_of {w : World} {A : Option Addr} {K : List UInt8} (h : K.length = 0) : RB w A 0 K := ⟨h, Row.nil _ _ _⟩
/-- Open, where the first looks let it by, out of what Make says. -/
def OpenEnd (y9 : Nat) (K : List UInt8) (q : Bool) (N : Int) (w : World) (e : Ending) (w' : World) : Prop :=
  (q = false ∧ e = .returned (.tuple #[.int .i64 0, .slice none 0 0, .int .i64 53]) ∧ Below w.heap.size w w') ∨
  (q = true ∧ ∃ A c, e = .returned (.tuple #[.int .i64 N, .slice A y9 c, .int .i64 0]) ∧ OB w' w.heap.size 5 A y9 c K ∧ Below w.heap.size w w')
theorem OpenEnd.no {y9 : Nat} {K : List UInt8} {N : Int} {w w' : World} (h : Below w.heap.size w w') : OpenEnd y9 K false N w (.returned (.tuple #[.int .i64 0, .slice none 0 0, .int .i64 53])) w' := .inl ⟨rfl, rfl, h⟩
theorem OpenEnd.yes {y9 c : Nat} {A : Option Addr} {K : List UInt8} {N : Int} {w w' : World} (h : Below w.heap.size w w') (ho : OB w' w.heap.size 5 A y9 c K) : OpenEnd y9 K true N w (.returned (.tuple #[.int .i64 N, .slice A y9 c, .int .i64 0])) w' := .inr ⟨rfl, A, c, rfl, ho, h⟩
theorem OpenEnd.yes0 {K : List UInt8} {N : Int} {w w' : World} (h : Below w.heap.size w w') (hK : K.length = 0) : OpenEnd 0 K true N w (.returned (.tuple #[.int .i64 N, .slice none 0 0, .int .i64 0])) w' := by
  obtain rfl := List.eq_nil_of_length_eq_zero hK
  exact .inr ⟨rfl, none, 0, rfl, Ow.nil _ _ _ _, h⟩
set_option maxRecDepth 100000 in
set_option maxHeartbeats 1000000 in
theorem open_main (l M : List UInt8) (kind r : Int) (w : World) (q : Bool) (hl : l.length = 128) (h127 : byteAt l 127 = 215) (h0 : (byteAt l 0 : Int) = kind) (h9 : byteAt l 9 ≤ 113) (hM : M.length = 128)
    (hq : (((r != 0) = true ∧ q = false) ∨ ((r != 0) = false ∧ q = decide (M = l))))
    (hmk : ∀ (A : Option Addr) (c : Nat) (w : World), RB w A (byteAt l 9) (openLoad l) → Calls Try.prog 86 #[.int .i64 kind, .int .i64 (sg (openNum l)), .slice A (byteAt l 9) c] w fun e w' => e = .returned (.tuple #[aggB M, .int .i64 r]) ∧ Below w.heap.size w w') :
    Calls Try.prog 77 #[aggB l, .int .i64 kind] w (OpenEnd (byteAt l 9) (openLoad l) q (sg (openNum l)) w) := by
  have c0 := cellB (l := l) 0 (by omega)
  have c9 := cellB (l := l) 9 (by omega)
  have c127 := cellB (l := l) 127 (by omega)
  have b0 := byteAt_lt l 0
  have b127 := byteAt_lt l 127
  have e1 : (((byteAt l 127 : Nat) : Int) != 215) = false := by rw [h127]; rfl
  have e2 : (((byteAt l 0 : Nat) : Int) != kind) = false := by rw [h0]; simp
  have e3 : decide ((113 : Int) < ((byteAt l 9 : Nat) : Int)) = false := by simp; omega
  have hb : ∀ (W : World) (g : Nat), W.heap[g]? = some (.cells (l.map bv).toArray 128 (0, 0)) → BlkB W g 128 l := fun _ _ h => h
  have hneq := fun w => eq128 M l hM hl w
  have hload : (l.drop 10).take (byteAt l 9) = openLoad l := rfl
  have hnum : getL ((l.drop 1).take 8) = openNum l := rfl
  have hlo := openLoad_len hl h9
  have hz := (zero_of_info zero128).1
  have hi := (zero_of_info zero128).2
  have hzl : (zerosL.map bv).length = 128 := by simp [zerosL_len]
  have HM := Lib.hid (show (M.map bv).length = 128 by simpa using hM)
  have HL := Lib.hid (show (l.map bv).length = 128 by simpa using hl)
  have HM1 := Lib.hid (mem_bv (l := M))
  have Hl := Lib.hid hl
  have Hi := Lib.hid hi
  have Hlo := Lib.hid hlo
  have Hload := Lib.hid hload
  have Hnum := Lib.hid hnum
  have H0 := Lib.hid h0
  generalize decide (M = l) = b at *
  unfold aggB at *
  generalize zerosL.map bv = Z at *
  have Hz := Lib.hid hzl
  generalize byteAt l 0 = y0 at *
  generalize byteAt l 9 = y9 at *
  generalize byteAt l 127 = y127 at *
  generalize openNum l = N at *
  generalize openLoad l = K at *
  clear hl h127 h0 hM hload hnum hlo hi hzl
  have hget : ∀ (A : Option Addr) (c : Nat) (w : World), RB w A 8 ((l.drop 1).take 8) → Calls Try.prog 80 #[.slice A 8 c] w fun e w' => e = .returned (.tuple #[.int .i64 (sg N), .int .i64 0]) ∧ w = w' := fun A c w h => by
    have := get_any A c _ w h
    rwa [Hnum.out] at this
  have hc1 : (10 : Int) + (y9 : Int) ≤ 128 := by omega
  have Hmk := Lib.hid hmk
  clear hmk
  have hy : y9 = 0 ∨ ¬ y9 = 0 := by omega
  have hsl : y9 ≠ 0 → ∀ W : World, (Instr.sliceAt 128 (.pointer (some ⟨w.heap.size, 0, none⟩)) (some (.int .i64 10)) (some (.int .i64 ((10 : Int) + (y9 : Int)))) (some (.int .i64 ((10 : Int) + (y9 : Int))))).run Try.prog W = .ok (.slice (some ⟨w.heap.size, 10, none⟩) y9 y9) W :=
    fun h W => run_slice3 Try.underlying128 (by kernel_rfl) _ _ _ 10 y9 rfl (by omega) (by omega) (by omega) W
  have hq' : ((r != 0) = true ∧ q = false) ∨ ((r != 0) = false ∧ b = false ∧ q = false) ∨ ((r != 0) = false ∧ b = true ∧ q = true) := by
    rcases hq with h | ⟨h, h2⟩
    · exact .inl h
    · cases b
      · exact .inr (.inl ⟨h, rfl, h2⟩)
      · exact .inr (.inr ⟨h, rfl, h2⟩)
  clear hq
  rcases hy with hy | hy
  case' inl => (clear hsl; subst hy)
  case' inr => replace hsl := hsl hy
  all_goals
   rcases hq' with ⟨hr, rfl⟩ | ⟨hr, rfl, rfl⟩ | ⟨hr, rfl, rfl⟩
  all_goals
   go_enter Try.func77, Try.ntmps77
   go_wp2_with (first
    | (go_at_call 80; (with_reducible refine (hget _ _ _ (BlkB.rb (off := 1) (hb _ _ (heap_top _ _ rfl)) rfl (by rw [Hl.out]; omega))).mono ?_); rintro e w1 ⟨rfl, rfl⟩)
    | (at_builtin; refine wpList_app rfl rfl elemU8 bv_one (s := .tmp 34) (N := y9) (L := K) rfl (Ow.nil bv _ w.heap.size _) rfl (k := K) (BlkB.rb (off := 10) (hb _ _ (heap_top _ _ rfl)) Hload.out (by rw [Hl.out]; omega)).rd (by omega) rfl (by unfold maxLen; omega) (by omega) (by first | omega | (simp; done) | (simp; omega)) ?_; intro A2 c2 w2 hown2 hg2 hat2 hb2)
    | (go_at_call 86; (with_reducible refine (Hmk.out _ _ _ hown2.rd.rb).mono ?_); rintro e w3 ⟨rfl, hB3⟩)
    | (go_at_call 86; (with_reducible refine (Hmk.out none 0 _ (RB.nil_of Hlo.out)).mono ?_); rintro e w3 ⟨rfl, hB3⟩)
    | (refine wpList_store_arr rfl (x := .tmp 8) (y := .tmp 46) rfl rfl rfl (t := 128) (cs := Z) (xs := M.map bv) (Blk.top _ rfl rfl) Hi.out HM.out (by rw [Hz.out]; omega) HM1.out ?_; intro w4 hb4 hg4 hs4; rw [splice_all _ _ (by rw [Hz.out, HM.out])] at hb4)
    | (refine wpList_load_arr rfl (x := .tmp 8) rfl rfl (t := 128) (cs := M.map bv) hb4 Try.underlying128 Hi.out HM.out (xs := M.map bv) (by rw [List.drop_zero, List.take_of_length_le (by rw [HM.out]; omega)]) ?_)
    | (refine wpList_load_arr rfl (x := .tmp 2) rfl rfl (t := 128) (cs := l.map bv) ((((hb _ _ ((heap_top _ _ rfl))).grown hg2 (by simp)).below hB3 (by have := hg2.size; simp at this; omega)).alloc _ |>.grown hg4 (by have := hg2.size; have := hB3.size; simp at *; omega)) Try.underlying128 Hi.out HL.out (xs := l.map bv) (by rw [List.drop_zero, List.take_of_length_le (by rw [HL.out]; omega)]) ?_)
    | (refine wpList_load_arr rfl (x := .tmp 2) rfl rfl (t := 128) (cs := l.map bv) ((((hb _ _ ((heap_top _ _ rfl))).below hB3 (by simp)).alloc _).grown hg4 (by have := hB3.size; simp at this; simp; omega)) Try.underlying128 Hi.out HL.out (xs := l.map bv) (by rw [List.drop_zero, List.take_of_length_le (by rw [HL.out]; omega)]) ?_))
  all_goals
   have h34 : Below w3.heap.size w3 w4 := below_of_only ((Below.refl _ _).alloc (Nat.le_refl _) _) hg4 (by simp) (Nat.le_refl _)
   first
    | (have hBel : Below w.heap.size w w4 := below_then (below_then (below_then' ((Below.refl _ _).alloc (Nat.le_refl _) _) hb2 (Nat.le_refl _)) hB3 (by have := hb2.size; simp at this; omega)) h34 (by have := hb2.size; have := hB3.size; simp at *; omega)
       have own4 := (hown2.below hB3 (Nat.le_refl _)).below h34 (Nat.le_refl _)
       go_ret3
       exact (OpenEnd.yes hBel own4))
    | (have hBel : Below w.heap.size w w4 := below_then (below_then ((Below.refl _ _).alloc (Nat.le_refl _) _) hB3 (by simp)) h34 (by have := hB3.size; simp at *; omega)
       go_ret3
       exact (OpenEnd.yes0 hBel Hlo.out))
    | (have hBel : Below w.heap.size w w4 := below_then (below_then (below_then' ((Below.refl _ _).alloc (Nat.le_refl _) _) hb2 (Nat.le_refl _)) hB3 (by have := hb2.size; simp at this; omega)) h34 (by have := hb2.size; have := hB3.size; simp at *; omega)
       go_ret3
       exact (OpenEnd.no hBel))
    | (have hBel : Below w.heap.size w w4 := below_then (below_then ((Below.refl _ _).alloc (Nat.le_refl _) _) hB3 (by simp)) h34 (by have := hB3.size; simp at *; omega)
       go_ret3
       exact (OpenEnd.no hBel))

theorem open_any (l : List UInt8) (kind : Int) (w : World) (hl : l.length = 128) :
    Calls Try.prog 77 #[aggB l, .int .i64 kind] w (OpenEnd (byteAt l 9) (openLoad l) (opens l kind) (sg (openNum l)) w) := by
  by_cases hbad : OpenBad l kind
  · have hf : opens l kind = false := by
      cases ho : opens l kind with
      | false => rfl
      | true =>
        have h1 := opens_kind ho
        have h2 := opens_parts ho
        unfold OpenBad at hbad
        omega
    rw [hf]
    exact (open_bad l kind w hl hbad).mono fun e w' ⟨he, hb⟩ => .inl ⟨rfl, he, hb⟩
  · have h127 : byteAt l 127 = 215 := by unfold OpenBad at hbad; omega
    have h0 : (byteAt l 0 : Int) = kind := by unfold OpenBad at hbad; omega
    have h9 : byteAt l 9 ≤ 113 := by unfold OpenBad at hbad; omega
    have hk := byteAt_lt l 0
    have hN := openNum_lt l
    have hlo := openLoad_len hl h9
    by_cases hok : 1 ≤ kind ∧ openNum l < 9223372036854775808
    · have hsg : sg (openNum l) = (openNum l : Int) := by unfold sg; rw [if_pos hok.2]
      have hun : un (sg (openNum l)) = openNum l := un_sg hN
      have hq : opens l kind = decide (sealL kind.toNat (openNum l) (openLoad l) = l) := by
        have e1 : kind ≤ 255 := by omega
        simp [opens, hok.1, e1, hok.2, h9]
      refine open_main l (sealL kind.toNat (openNum l) (openLoad l)) kind 0 w _ hl h127 h0 h9 (sealL_len _ _ _ (by omega)) (.inr ⟨rfl, hq⟩) (fun A c w hr => ?_)
      have := make_ok kind (sg (openNum l)) A (byteAt l 9) c (openLoad l) w hok.1 (by omega) (by omega) h9 hr
      rwa [hun] at this
    · have hq : opens l kind = false := by
        cases ho : opens l kind with
        | false => rfl
        | true =>
          have h2 := opens_parts ho
          omega
      refine open_main l zerosL kind 2 w _ hl h127 h0 h9 zerosL_len (.inl ⟨rfl, hq⟩) (fun A c w hr => ?_)
      refine make_arg kind _ A _ c w ?_
      have : 1 ≤ kind → sg (openNum l) < 0 := fun h => by
        have : ¬ openNum l < 9223372036854775808 := fun h2 => hok ⟨h, h2⟩
        unfold sg; rw [if_neg this]; omega
      omega
end Go.Proofs.Ytalmdccgpigppaa
namespace Go.Proofs.Ytalmdccgpigppaa
open Go.RowKit

/-- What Make answers: the bytes, the error. -/
def makeL (kind n : Int) (l : List UInt8) : List UInt8 × Int :=
  if kind < 1 ∨ 255 < kind ∨ n < 0 then (zerosL, 2) else if 113 < l.length then (zerosL, 3) else (sealL kind.toNat n.toNat l, 0)
theorem makeL_len (kind n : Int) (l : List UInt8) : (makeL kind n l).1.length = 128 := by
  unfold makeL
  split
  · exact zerosL_len
  · split
    · exact zerosL_len
    · exact sealL_len _ _ _ (by omega)
theorem un_nat {n : Int} (h0 : 0 ≤ n) (h1 : n ≤ 9223372036854775807) : un n = n.toNat := by unfold un; omega
theorem make_any (kind n : Int) (A : Option Addr) (m c : Nat) (l : List UInt8) (w : World) (hn : n ≤ 9223372036854775807) (hm : m ≤ maxLen) (hl : RB w A m l) :
    Calls Try.prog 86 #[.int .i64 kind, .int .i64 n, .slice A m c] w fun e w' => e = .returned (.tuple #[aggB (makeL kind n l).1, .int .i64 (makeL kind n l).2]) ∧ Below w.heap.size w w' := by
  unfold makeL
  by_cases h : kind < 1 ∨ 255 < kind ∨ n < 0
  · rw [if_pos h]; exact make_arg kind n A m c w h
  · rw [if_neg h]
    by_cases h2 : 113 < l.length
    · rw [if_pos h2]; exact make_limit kind n A m c w (by omega) (by omega) (by omega) (by rw [← hl.1]; exact h2) hm
    · rw [if_neg h2]
      have := make_ok kind n A m c l w (by omega) (by omega) (by omega) (by rw [← hl.1]; omega) hl
      rwa [un_nat (by omega) hn] at this

end Go.Proofs.Ytalmdccgpigppaa
