/- Parts: PlainSeal, SealA. -/
import Derived.Test.YtalmdccgpigppaaPr02
import Derived.Test.YtalmdccgpigppaaPr14
import Derived.Laws.CopyOwn
import Derived.Test.YtalmdccgpigppaaPr01
import Derived.Deep.WholeRow
import Derived.Deep.RegionHeld3
namespace Go.Proofs.Ytalmdccgpigppaa
open Go.RowKit

def zerosL : List UInt8 := List.replicate 128 0
theorem zerosL_len : zerosL.length = 128 := by simp [zerosL]
def le4 (s : Nat) : List UInt8 := tabB 4 (fun i => s / 256 ^ i % 256)
theorem le4_len (s : Nat) : (le4 s).length = 4 := by simp [le4, tabB_len]
/-- The first 123 bytes of a sealed sector. -/
def sealBody (kind n : Nat) (load : List UInt8) : List UInt8 :=
  UInt8.ofNat kind :: (putL n ++ (UInt8.ofNat load.length :: (load ++ List.replicate (113 - load.length) 0)))
def sealL (kind n : Nat) (load : List UInt8) : List UInt8 := sealBody kind n load ++ (le4 (crcSum [sealBody kind n load]) ++ [215])
theorem sealBody_len (kind n : Nat) (load : List UInt8) (h : load.length ≤ 113) : (sealBody kind n load).length = 123 := by
  simp [sealBody, putL_len]; omega
theorem sealL_len (kind n : Nat) (load : List UInt8) (h : load.length ≤ 113) : (sealL kind n load).length = 128 := by
  simp [sealL, sealBody_len kind n load h, le4_len]
theorem sealL_first (kind n : Nat) (load : List UInt8) (h : kind < 256) : byteAt (sealL kind n load) 0 = kind := by
  simp only [sealL, sealBody, byteAt, List.cons_append, List.getD_cons_zero]
  exact UInt8.toNat_ofNat_of_lt' (by simp [UInt8.size]; omega)
theorem sealL_last (kind n : Nat) (load : List UInt8) (h : load.length ≤ 113) : byteAt (sealL kind n load) 127 = 215 := by
  have h1 := sealBody_len kind n load h
  simp only [sealL, byteAt, List.getD_eq_getElem?_getD]
  rw [List.getElem?_append_right (by omega), List.getElem?_append_right (by rw [le4_len]; omega), h1, le4_len]
  rfl
theorem sealL_size (kind n : Nat) (load : List UInt8) (h : load.length ≤ 113) : byteAt (sealL kind n load) 9 = load.length := by
  have h0 := putL_len n
  simp only [sealL, sealBody, byteAt, List.cons_append, List.getD_eq_getElem?_getD, List.append_assoc]
  rw [List.getElem?_cons_succ, List.getElem?_append_right (by omega), h0]
  simp only [Nat.sub_self, List.getElem?_cons_zero, Option.getD_some]
  exact UInt8.toNat_ofNat_of_lt' (by simp [UInt8.size]; omega)
theorem sealL_num (kind n : Nat) (load : List UInt8) : ((sealL kind n load).drop 1).take 8 = putL n := by
  have h0 := putL_len n
  simp only [sealL, sealBody, List.cons_append, List.drop_succ_cons, List.drop_zero, List.append_assoc]
  rw [List.take_append_of_le_length (by omega), List.take_of_length_le (by omega)]
theorem sealL_load (kind n : Nat) (load : List UInt8) : ((sealL kind n load).drop 10).take load.length = load := by
  have h0 := putL_len n
  simp only [sealL, sealBody, List.cons_append, List.append_assoc]
  rw [show 10 = 9 + 1 from rfl, List.drop_succ_cons, show 9 = (putL n).length + 1 from by omega, List.drop_append, List.drop_of_length_le (by omega), List.nil_append, show (putL n).length + 1 - (putL n).length = 1 from by omega, List.drop_succ_cons, List.drop_zero, List.take_append_of_le_length (by omega), List.take_of_length_le (by omega)]
/-- What is opened: kind, the bytes; the number, the load. -/
def openNum (b : List UInt8) : Nat := getL ((b.drop 1).take 8)
def openLoad (b : List UInt8) : List UInt8 := (b.drop 10).take (byteAt b 9)
def opens (b : List UInt8) (kind : Int) : Bool :=
  decide (1 ≤ kind) && decide (kind ≤ 255) && decide (openNum b < 9223372036854775808) && decide (byteAt b 9 ≤ 113) && decide (sealL kind.toNat (openNum b) (openLoad b) = b)
theorem openNum_lt (b : List UInt8) : openNum b < 18446744073709551616 := by
  unfold openNum
  have h1 := getL_lt ((b.drop 1).take 8)
  have h2 : ((b.drop 1).take 8).length ≤ 8 := List.length_take_le _ _
  have h3 : 256 ^ ((b.drop 1).take 8).length ≤ 256 ^ 8 := Nat.pow_le_pow_right (by omega) h2
  omega
theorem openLoad_len {b : List UInt8} (h : b.length = 128) (h9 : byteAt b 9 ≤ 113) : (openLoad b).length = byteAt b 9 := by
  simp [openLoad, h]; omega
theorem opens_parts {b : List UInt8} {kind : Int} (h : opens b kind = true) : 1 ≤ kind ∧ kind ≤ 255 ∧ openNum b < 9223372036854775808 ∧ byteAt b 9 ≤ 113 ∧ sealL kind.toNat (openNum b) (openLoad b) = b := by
  simpa [opens, and_assoc] using h
theorem opens_mk {b : List UInt8} {kind : Int} (h1 : 1 ≤ kind) (h2 : kind ≤ 255) (h3 : openNum b < 9223372036854775808) (h4 : byteAt b 9 ≤ 113) (h5 : sealL kind.toNat (openNum b) (openLoad b) = b) : opens b kind = true := by
  simp [opens, h1, h2, h3, h4, h5]
theorem opens_seal {kind : Int} {n : Nat} {load : List UInt8} (h1 : 1 ≤ kind) (h2 : kind ≤ 255) (h3 : n < 9223372036854775808) (h4 : load.length ≤ 113) :
    opens (sealL kind.toNat n load) kind = true ∧ openNum (sealL kind.toNat n load) = n ∧ openLoad (sealL kind.toNat n load) = load := by
  have e1 : openNum (sealL kind.toNat n load) = n := by unfold openNum; rw [sealL_num, getL_putL _ (by omega)]
  have e2 : openLoad (sealL kind.toNat n load) = load := by unfold openLoad; rw [sealL_size _ _ _ h4, sealL_load]
  exact ⟨opens_mk h1 h2 (by rw [e1]; exact h3) (by rw [sealL_size _ _ _ h4]; exact h4) (by rw [e1, e2]), e1, e2⟩
theorem opens_kind {b : List UInt8} {kind : Int} (h : opens b kind = true) : (byteAt b 0 : Int) = kind ∧ byteAt b 127 = 215 ∧ b.length = 128 := by
  obtain ⟨h1, h2, h3, h4, h5⟩ := opens_parts h
  by_cases hl : (openLoad b).length ≤ 113
  · rw [← h5, sealL_first _ _ _ (by omega), sealL_last _ _ _ hl, sealL_len _ _ _ hl]; omega
  · have := List.length_take_le (byteAt b 9) (b.drop 10)
    unfold openLoad at hl
    omega

theorem splice_cut {α : Type} (a b c k : List α) (h : b.length = k.length) : splice (a ++ (b ++ c)) a.length k = a ++ (k ++ c) := by
  unfold splice
  rw [List.take_left', List.drop_append, List.drop_of_length_le (by omega), List.nil_append, show a.length + k.length - a.length = b.length from by omega, List.drop_left']
  · rfl
  · rfl
theorem seal_L3 (a b : UInt8) (p l : List UInt8) (hp : p.length = 8) (hl : l.length ≤ 113) :
    splice (splice (((zerosL.set 0 a).set 9 b).set 127 215) 1 p) 10 l = [a] ++ (p ++ ([b] ++ (l ++ (List.replicate (117 - l.length) 0 ++ [215])))) := by
  have e1 : (((zerosL.set 0 a).set 9 b).set 127 215) = [a] ++ (List.replicate 8 0 ++ ([b] ++ (List.replicate 117 0 ++ [215]))) := rfl
  have e2 : splice ([a] ++ (List.replicate 8 0 ++ ([b] ++ (List.replicate 117 0 ++ [215])))) 1 p = [a] ++ (p ++ ([b] ++ (List.replicate 117 0 ++ [215]))) :=
    splice_cut [a] (List.replicate 8 0) _ p (by rw [hp]; simp)
  have e3 : List.replicate 117 (0 : UInt8) = List.replicate l.length 0 ++ List.replicate (117 - l.length) 0 := by rw [List.replicate_append_replicate]; congr 1; omega
  rw [e1, e2, e3]
  have e4 : [a] ++ (p ++ ([b] ++ (List.replicate l.length 0 ++ List.replicate (117 - l.length) 0 ++ [215]))) = ([a] ++ (p ++ [b])) ++ (List.replicate l.length 0 ++ (List.replicate (117 - l.length) 0 ++ [215])) := by simp only [List.append_assoc]
  rw [e4]
  have := splice_cut ([a] ++ (p ++ [b])) (List.replicate l.length 0) (List.replicate (117 - l.length) 0 ++ [215]) l (by simp)
  rw [show ([a] ++ (p ++ [b])).length = 10 from by simp [hp]] at this
  rw [this]
  simp only [List.append_assoc]
theorem seal_L3_body (kind n : Nat) (l : List UInt8) (hl : l.length ≤ 113) :
    ([UInt8.ofNat kind] ++ (putL n ++ ([UInt8.ofNat l.length] ++ (l ++ (List.replicate (117 - l.length) 0 ++ [215]))))) = sealBody kind n l ++ ([0, 0, 0, 0] ++ [215]) := by
  have e3 : List.replicate (117 - l.length) (0 : UInt8) = List.replicate (113 - l.length) 0 ++ [0, 0, 0, 0] := by
    have h4 : ([0, 0, 0, 0] : List UInt8) = List.replicate 4 0 := rfl
    rw [h4, List.replicate_append_replicate]; congr 1; omega
  rw [e3]
  simp [sealBody]
theorem seal_L3_take (kind n : Nat) (l : List UInt8) (hl : l.length ≤ 113) : (sealBody kind n l ++ ([0, 0, 0, 0] ++ [215])).take 123 = sealBody kind n l := by
  have h := sealBody_len kind n l hl
  rw [List.take_append_of_le_length (by omega), List.take_of_length_le (by omega)]
theorem seal_L4 (kind n : Nat) (l : List UInt8) (hl : l.length ≤ 113) : splice (sealBody kind n l ++ ([0, 0, 0, 0] ++ [215])) 123 (le4 (crcSum [sealBody kind n l])) = sealL kind n l := by
  have h := sealBody_len kind n l hl
  have := splice_cut (sealBody kind n l) [0, 0, 0, 0] [215] (le4 (crcSum [sealBody kind n l])) (by rw [le4_len]; rfl)
  rw [h] at this
  rw [this]; rfl
end Go.Proofs.Ytalmdccgpigppaa
namespace Go.Proofs.Ytalmdccgpigppaa
open Go.RowKit

theorem zero128 : (Try.prog.info? 128).map (fun i => (i.zero, i.size)) = some (some (aggB zerosL), 128) := by kernel_rfl

def KindOut (kind n : Int) : Prop := kind < 1 ∨ (1 ≤ kind ∧ 255 < kind) ∨ (1 ≤ kind ∧ kind ≤ 255 ∧ n < 0)
set_option maxRecDepth 100000 in
set_option maxHeartbeats 1000000 in
theorem make_arg (kind n : Int) (A : Option Addr) (m c : Nat) (w : World) (h : kind < 1 ∨ 255 < kind ∨ n < 0) :
    Calls Try.prog 86 #[.int .i64 kind, .int .i64 n, .slice A m c] w fun e w' => e = .returned (.tuple #[aggB zerosL, .int .i64 2]) ∧ Below w.heap.size w w' := by
  have h' : KindOut kind n := by unfold KindOut; omega
  clear h
  have hz := (zero_of_info zero128).1
  have hi := (zero_of_info zero128).2
  have hl : (zerosL.map bv).length = 128 := by simp [zerosL_len]
  have h1 := mem_bv (l := zerosL)
  unfold aggB at *
  generalize zerosL.map bv = Z at *
  have Hl := Lib.hid hl
  have Hi := Lib.hid hi
  have H1 := Lib.hid h1
  clear hl hi h1
  rcases h' with h | ⟨h2, h⟩ | ⟨h2, h3, h⟩
  all_goals
    go_enter Try.func86, Try.ntmps86
    go_wp2_with (first
      | (refine wpList_load_arr rfl (x := .tmp 8) rfl rfl (t := 128) (cs := Z) (by (repeat' (first | (with_reducible assumption) | (with_reducible refine Blk.top _ (by first | rfl | omega | (simp; done) | (simp; omega)) rfl) | (with_reducible refine Blk.alloc ?_ _) | (with_reducible refine Blk.drew ?_) | (with_reducible refine Blk.drewN ?_ _) | (with_reducible refine Blk.far ?_ (by first | omega | (simp; done) | (simp; omega)) _)))) Try.underlying128 Hi.out Hl.out (xs := Z) (by rw [List.drop_zero, List.take_of_length_le (by rw [Hl.out]; omega)]) ?_)
      | (refine wpList_store_arr rfl (x := .tmp 6) (y := .tmp 21) rfl rfl rfl (t := 128) (cs := Z) (by (repeat' (first | (with_reducible assumption) | (with_reducible refine Blk.top _ (by first | rfl | omega | (simp; done) | (simp; omega)) rfl) | (with_reducible refine Blk.alloc ?_ _) | (with_reducible refine Blk.drew ?_) | (with_reducible refine Blk.drewN ?_ _) | (with_reducible refine Blk.far ?_ (by first | omega | (simp; done) | (simp; omega)) _)))) Hi.out Hl.out (by rw [Hl.out]; omega) H1.out ?_; intro w1 hb1 hg1 hs1))
    refine bodyPost_ret (v := .tuple #[.agg Z.toArray, .int .i64 2]) (results_arr_tmp Try.results86 _ rfl rfl (by rw [splice_all _ _ rfl] at hb1; exact hb1) Try.underlying128 Hi.out Hl.out) rfl ?_
    exact ⟨rfl, below_of_only (by (repeat' (first | (with_reducible exact Below.refl _ _) | (with_reducible assumption) | (with_reducible refine Below.drew ?_) | (with_reducible refine below_drewN ?_ _) | (with_reducible refine Below.alloc ?_ ?_ _) | (with_reducible refine Below.setCell ?_ ?_ _) | omega | (simp; done) | (simp; omega)))) hg1 (by first | omega | (simp; done) | (simp; omega)) (Nat.le_refl _)⟩

set_option maxRecDepth 100000 in
set_option maxHeartbeats 1000000 in
theorem make_limit (kind n : Int) (A : Option Addr) (m c : Nat) (w : World) (h1 : 1 ≤ kind) (h2 : kind ≤ 255) (h3 : 0 ≤ n) (h4 : 113 < m) (hm : m ≤ maxLen) :
    Calls Try.prog 86 #[.int .i64 kind, .int .i64 n, .slice A m c] w fun e w' => e = .returned (.tuple #[aggB zerosL, .int .i64 3]) ∧ Below w.heap.size w w' := by
  unfold maxLen at hm
  have hz := (zero_of_info zero128).1
  have hi := (zero_of_info zero128).2
  have hl : (zerosL.map bv).length = 128 := by simp [zerosL_len]
  have h1 := mem_bv (l := zerosL)
  unfold aggB at *
  generalize zerosL.map bv = Z at *
  have Hl := Lib.hid hl
  have Hi := Lib.hid hi
  have H1 := Lib.hid h1
  clear hl hi h1
  go_enter Try.func86, Try.ntmps86
  go_wp2_with (first
    | (refine wpList_load_arr rfl (x := .tmp 8) rfl rfl (t := 128) (cs := Z) (by (repeat' (first | (with_reducible assumption) | (with_reducible refine Blk.top _ (by first | rfl | omega | (simp; done) | (simp; omega)) rfl) | (with_reducible refine Blk.alloc ?_ _) | (with_reducible refine Blk.drew ?_) | (with_reducible refine Blk.drewN ?_ _) | (with_reducible refine Blk.far ?_ (by first | omega | (simp; done) | (simp; omega)) _)))) Try.underlying128 Hi.out Hl.out (xs := Z) (by rw [List.drop_zero, List.take_of_length_le (by rw [Hl.out]; omega)]) ?_)
    | (refine wpList_store_arr rfl (x := .tmp 6) (y := .tmp 26) rfl rfl rfl (t := 128) (cs := Z) (by (repeat' (first | (with_reducible assumption) | (with_reducible refine Blk.top _ (by first | rfl | omega | (simp; done) | (simp; omega)) rfl) | (with_reducible refine Blk.alloc ?_ _) | (with_reducible refine Blk.drew ?_) | (with_reducible refine Blk.drewN ?_ _) | (with_reducible refine Blk.far ?_ (by first | omega | (simp; done) | (simp; omega)) _)))) Hi.out Hl.out (by rw [Hl.out]; omega) H1.out ?_; intro w1 hb1 hg1 hs1))
  refine bodyPost_ret (v := .tuple #[.agg Z.toArray, .int .i64 3]) (results_arr_tmp Try.results86 _ rfl rfl (by rw [splice_all _ _ rfl] at hb1; exact hb1) Try.underlying128 Hi.out Hl.out) rfl ?_
  exact ⟨rfl, below_of_only (by (repeat' (first | (with_reducible exact Below.refl _ _) | (with_reducible assumption) | (with_reducible refine Below.drew ?_) | (with_reducible refine below_drewN ?_ _) | (with_reducible refine Below.alloc ?_ ?_ _) | (with_reducible refine Below.setCell ?_ ?_ _) | omega | (simp; done) | (simp; omega)))) hg1 (by first | omega | (simp; done) | (simp; omega)) (Nat.le_refl _)⟩
end Go.Proofs.Ytalmdccgpigppaa
