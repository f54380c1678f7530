/- Contracts of the disk's law: Full, Few. -/
import Derived.Test.YtninidpbchcliaaPlainDisk
import Derived.Test.YtninidpbchcliaaMem
namespace Go.Proofs.Ytninidpbchcliaa
open Go.RowKit
set_option linter.unusedVariables false
set_option linter.unusedSimpArgs false

theorem results_arr1 {P : Program} {w : World} {fn : Func} {p : Tmp} {ty : TypeId} (h : fn.results = #[.cell p ty]) (tmps : Array Value) {g n : Nat} {t e : TypeId} {cs : List Value}
    (hp : tmps.getD p undef = .pointer (some ⟨g, 0, none⟩)) (hb : Blk w g t cs) (hu : P.underlying ty = some (.array n e)) (hi : (P.info? ty).map (·.size) = some n) (hl : cs.length = n) :
    (results fn tmps).run P w = .ok (.agg cs.toArray) w := by
  have hp' : tmps[p]?.getD undef = .pointer (some ⟨g, 0, none⟩) := by simpa using hp
  simp [results, h, hp', asAddr, run_load_arr hb hu hi hl (by rw [List.drop_zero, List.take_of_length_le (by omega)])]
def fK (b : List UInt8) (k : Nat) : List UInt8 := (fullL b).take k ++ zerosL.drop k
theorem fK_len (b : List UInt8) {k : Nat} (h : k ≤ 128) : (fK b k).length = 128 := by
  unfold fK; rw [List.length_append, List.length_take, List.length_drop, fullL_len, zerosL_len]; omega
theorem fK_zero (b : List UInt8) : fK b 0 = zerosL := by simp [fK]
theorem fK_all (b : List UInt8) : fK b 128 = fullL b := by
  unfold fK; rw [List.take_of_length_le (by rw [fullL_len]; omega), List.drop_of_length_le (by rw [zerosL_len]; omega), List.append_nil]
theorem fK_succ (b : List UInt8) {k : Nat} (h : k < 128) : (fK b k).set k ((fullL b).getD k 0) = fK b (k + 1) := by
  unfold fK
  have h1 : ((fullL b).take k).length = k := by rw [List.length_take, fullL_len]; omega
  rw [List.set_append_right _ _ (by omega), h1, Nat.sub_self, List.drop_eq_getElem_cons (show k < zerosL.length by rw [zerosL_len]; omega), List.set_cons_zero, List.take_succ_eq_append_getElem (by rw [fullL_len]; exact h), List.append_assoc]
  congr 1
  rw [List.getD_eq_getElem?_getD, List.getElem?_eq_getElem (by rw [fullL_len]; exact h)]
  rfl
theorem fullL_at (b : List UInt8) {k : Nat} (h : k < 128) (hb : 0 < b.length) : (fullL b).getD k 0 = b.getD (k % b.length) 0 := by
  unfold fullL
  rw [List.getD_eq_getElem?_getD, List.getElem?_map, List.getElem?_range h]
  show (if b.length = 0 then 0 else b.getD (k % b.length) 0) = _
  rw [if_neg (by omega)]
theorem fullL_nil {b : List UInt8} (hb : b.length = 0) : fullL b = zerosL := by
  unfold fullL zerosL
  simp only [hb, if_true]
  rw [List.map_const', List.length_range]
set_option maxRecDepth 100000 in
set_option maxHeartbeats 4000000 in
theorem full_any (A : Option Addr) (n c : Nat) (b : List UInt8) (w : World) (hl : RB w A n b) (hn : n ≤ maxLen) :
    Calls Try.prog 19 #[.slice A n c] w fun e w' => e = .returned (aggB (fullL b)) ∧ Below w.heap.size w w' := by
  have hz := (zero_of_info zero128).1
  have Hi := Lib.hid (zero_of_info zero128).2
  have hlz : Hid ((zerosL.map bv).length = 128) := by show _ = _; simp [zerosL_len]
  have h0 := Lib.hid (fK_zero b)
  have hall := Lib.hid (fK_all b)
  have hlen := Lib.hid hl.1
  unfold maxLen at hn
  unfold aggB at *
  have hzz : Hid ((fK b 0).map bv = zerosL.map bv) := by show _ = _; rw [fK_zero]
  generalize zerosL.map bv = Z at *
  go_enter Try.func19, Try.ntmps19
  go_wp2
  go_loopw [4, 5] (fun _ i wr => ∃ k : Nat, k ≤ 128 ∧ i = .int .i64 (k : Nat) ∧ BlkB wr (w.heap.size + 1) 33 (fK b k) ∧ Blk wr w.heap.size 33 Z ∧ Below w.heap.size w wr) (fun _ i _ => 128 - (intOf i).toNat)
  case atStart => exact ⟨0, by omega, rfl, by unfold BlkB; rw [hzz.out]; exact (by (repeat' (first | (with_reducible assumption) | (with_reducible refine Blk.top _ (by first | rfl | omega | (simp; done) | (simp; omega)) rfl) | (with_reducible refine Blk.alloc ?_ _) | (with_reducible refine Blk.drew ?_) | (with_reducible refine Blk.drewN ?_ _) | (with_reducible refine Blk.far ?_ (by first | omega | (simp; done) | (simp; omega)) _)))), (by (repeat' (first | (with_reducible assumption) | (with_reducible refine Blk.top _ (by first | rfl | omega | (simp; done) | (simp; omega)) rfl) | (with_reducible refine Blk.alloc ?_ _) | (with_reducible refine Blk.drew ?_) | (with_reducible refine Blk.drewN ?_ _) | (with_reducible refine Blk.far ?_ (by first | omega | (simp; done) | (simp; omega)) _)))), (by (repeat' (first | (with_reducible exact Below.refl _ _) | (with_reducible assumption) | (with_reducible refine Below.drew ?_) | (with_reducible refine below_drewN ?_ _) | (with_reducible refine Below.alloc ?_ ?_ _) | (with_reducible refine Below.setCell ?_ ?_ _) | omega | (simp; done) | (simp; omega))))⟩
  case round =>
    obtain ⟨k, hk, rfl, hx, hzb, hbel⟩ := hrel
    by_cases hlt : k < 128
    · have hs := Lib.hid (fK_succ b hlt)
      have cx := hx.cellB k (by rw [fK_len b (by omega)]; exact hlt)
      have fx := hx.frozen k
      have lx := hx.lt
      have hX := Lib.hid hx
      have hZ := Lib.hid hzb
      by_cases h9 : n = 0
      · subst h9
        have e9 := hlen.out
        have hsame : Hid (fK b (k + 1) = fK b k) := by
          show _ = _
          unfold fK
          rw [fullL_nil e9, List.take_append_drop, List.take_append_drop]
        clear hx hzb e9
        go_wp2
        go_roundw
        case rel => exact ⟨k + 1, by omega, by go_num, by rw [hsame.out]; exact hX.out, hZ.out, hbel⟩
        case measure => simp [intOf]; omega
      · have hn0 : 0 < n := by omega
        have hm : k % n < n := Nat.mod_lt _ hn0
        obtain ⟨bb, oo, rfl, hbb, hcc⟩ := (hl.below hbel (Nat.le_refl _)).at_ hm
        have hst : BlkB (wr.setCell ⟨w.heap.size + 1, k, none⟩ (.int .u8 (byteAt b (k % n)))) (w.heap.size + 1) 33 (fK b (k + 1)) := by
          have := hx.setB k (b.getD (k % n) 0) (.int .u8 (byteAt b (k % n))) (by unfold bv byteAt; rfl)
          rw [← hs.out, fullL_at b hlt (by rw [hlen.out]; exact hn0), hlen.out]
          exact this
        have HST := Lib.hid hst
        have m1 : ((k : Int) % (n : Int)) = ((k % n : Nat) : Int) := by omega
        have hmI : ((k : Int) % (n : Int)) < (n : Int) := by omega
        have hmI0 : 0 ≤ ((k : Int) % (n : Int)) := by omega
        have hmN : ((k : Int) % (n : Int)).toNat = k % n := by omega
        have hne0 : ((n : Int) == 0) = false := by rw [beq_eq_false_iff_ne]; omega
        have Hm1 := Lib.hid m1
        clear hx hzb hst m1
        go_wp2
        go_roundw
        case rel => exact ⟨k + 1, by omega, by go_num, HST.out, hZ.out.far (by simp) _, hbel.setCell (by show w.heap.size ≤ w.heap.size + 1; omega) _⟩
        case measure => simp [intOf]; omega
    · have hk9 : k = 128 := by omega
      subst hk9
      rw [hall.out] at hx
      have hfl : Hid (((fullL b).map bv).length = 128) := by show _ = _; rw [List.length_map, fullL_len]
      have hone := Lib.hid (mem_bv (l := fullL b))
      unfold BlkB at hx
      generalize hS : (fullL b).map bv = S at *
      have HS := Lib.hid hS
      clear hS
      go_wp2_with (first
        | (refine wpList_load_arr rfl (x := .tmp 3) rfl rfl hx Try.underlying33 Hi.out hfl.out (by rw [List.drop_zero, List.take_of_length_le (by rw [hfl.out]; omega)]) ?_)
        | (refine wpList_store_arr rfl (x := .tmp 2) (y := .tmp 21) rfl rfl rfl hzb Hi.out hfl.out (by rw [hlz.out]; omega) hone.out ?_; intro w3 hb3 hg3 hs3; rw [splice_all _ _ (hlz.out.trans hfl.out.symm)] at hb3)
        | fail "no arm")
      refine bodyPost_ret (v := .agg S.toArray) (results_arr1 Try.results19 _ rfl hb3 Try.underlying33 Hi.out hfl.out) rfl ?_
      exact ⟨by rw [HS.out], below_of_only hbel hg3 hbel.size (Nat.le_refl _)⟩

/-- What a law goes through with. -/
def few6B (l : List DoV) : Bool := l.all (fun x => decide (x.b.length ≤ 200)) && decide (l.length ≤ 40)
theorem few6B_true {l : List DoV} (h : few6B l = true) : l.length ≤ 40 ∧ ∀ x ∈ l, x.b.length ≤ 200 := by
  unfold few6B at h
  rw [Bool.and_eq_true, List.all_eq_true, decide_eq_true_eq] at h
  exact ⟨h.2, fun x hx => of_decide_eq_true (h.1 x hx)⟩
theorem few6B_no {l : List DoV} {k : Nat} {x : DoV} (hx : l[k]? = some x) (h : 200 < x.b.length) : few6B l = false := by
  cases hq : few6B l with
  | false => rfl
  | true => have := (few6B_true hq).2 x (List.mem_of_getElem? hx); omega
theorem few6B_all {l : List DoV} (h : ∀ (k : Nat) (x : DoV), l[k]? = some x → x.b.length ≤ 200) : few6B l = decide (l.length ≤ 40) := by
  unfold few6B
  rw [show l.all (fun x => decide (x.b.length ≤ 200)) = true from by
    rw [List.all_eq_true]
    intro x hx
    obtain ⟨k, hk⟩ := List.getElem?_of_mem hx
    exact decide_eq_true (h k x hk), Bool.true_and]
set_option maxRecDepth 100000 in
set_option maxHeartbeats 4000000 in
theorem few6_any (A : Option Addr) (n c : Nat) (l : List DoV) (w : World) (hl : DosRd w A n l) (hn : n ≤ maxLen) :
    Calls Try.prog 16 #[.slice A n c] w fun e w' => e = .returned (.bool (few6B l)) ∧ Below w.heap.size w w' := by
  have hlen := Lib.hid hl.1
  unfold maxLen at hn
  go_enter Try.func16, Try.ntmps16
  go_wp2
  go_loopw [4, 7] (fun _ i wr => ∃ k : Nat, k ≤ n ∧ i = .int .i64 (k : Nat) ∧ (∀ (j : Nat) (x : DoV), j < k → l[j]? = some x → x.b.length ≤ 200) ∧ Below w.heap.size w wr) (fun _ i _ => n - (intOf i).toNat)
  case atStart => exact ⟨0, by omega, rfl, fun j x hj => absurd hj (by omega), Below.refl _ _⟩
  case round =>
    obtain ⟨k, hk, rfl, hsm, hbel⟩ := hrel
    have Hsm := Lib.hid hsm
    clear hsm
    by_cases hlt : k < n
    · have hkl : k < l.length := by rw [hlen.out]; exact hlt
      have hbs := hbel.size
      obtain ⟨x, hx⟩ : ∃ x, l[k]? = some x := ⟨_, List.getElem?_eq_getElem hkl⟩
      obtain ⟨b, o, B, m, d, rfl, hb, e0, e1, e2, hr, hmd, hd, _, _⟩ := (hl.below hbel (Nat.le_refl _)).2 k x hx
      have hm : m ≤ 9223372036854775807 := by unfold maxLen at hd; omega
      have HX := Lib.hid hx
      have Hr := Lib.hid hr.1
      simp only [Nat.add_zero] at e0
      clear hx hr hd
      by_cases hbig : 200 < m
      · have hno : Hid (few6B l = false) := few6B_no HX.out (by rw [Hr.out]; exact hbig)
        go_wp2
        go_ret
        exact ⟨ret_bool hno.out.symm, (by (repeat' (first | (with_reducible exact Below.refl _ _) | (with_reducible assumption) | (with_reducible refine Below.drew ?_) | (with_reducible refine below_drewN ?_ _) | (with_reducible refine Below.alloc ?_ ?_ _) | (with_reducible refine Below.setCell ?_ ?_ _) | omega | (simp; done) | (simp; omega))))⟩
      · have hsm2 : Hid (∀ (j : Nat) (x : DoV), j < k + 1 → l[j]? = some x → x.b.length ≤ 200) := fun j x hj hx => by
          rcases Nat.lt_or_ge j k with q | q
          · exact Hsm.out j x q hx
          · have : j = k := by omega
            subst this
            rw [HX.out] at hx
            injection hx with hx
            rw [← hx, Hr.out]; omega
        go_wp2
        go_roundw
        case rel => exact ⟨k + 1, by omega, by go_num, hsm2.out, (by (repeat' (first | (with_reducible exact Below.refl _ _) | (with_reducible assumption) | (with_reducible refine Below.drew ?_) | (with_reducible refine below_drewN ?_ _) | (with_reducible refine Below.alloc ?_ ?_ _) | (with_reducible refine Below.setCell ?_ ?_ _) | omega | (simp; done) | (simp; omega))))⟩
        case measure => simp [intOf]; omega
    · have hk9 : k = n := by omega
      subst hk9
      have hall : Hid (few6B l = decide (k ≤ 40)) := by
        show _ = _
        rw [few6B_all (fun j x hx => Hsm.out j x (by rw [← hlen.out]; exact (List.getElem?_eq_some_iff.1 hx).1) hx), hlen.out]
      go_wp2
      go_ret
      exact ⟨ret_bool (by rw [hall.out]; first | rfl | (simp; done) | (simp; omega)), (by (repeat' (first | (with_reducible exact Below.refl _ _) | (with_reducible assumption) | (with_reducible refine Below.drew ?_) | (with_reducible refine below_drewN ?_ _) | (with_reducible refine Below.alloc ?_ ?_ _) | (with_reducible refine Below.setCell ?_ ?_ _) | omega | (simp; done) | (simp; omega))))⟩
end Go.Proofs.Ytninidpbchcliaa
