/- Parts: Sq, Tab, PlainNum, NumA, NumB. -/
import Derived.Test.YtpmkpckldnnigaaGreatPr01
import Derived.Deep.RegionHeld3
import Derived.WalkKit
import Derived.WalkSpells
import Derived.WalkLawsBesides
import Derived.Deep.QuietTactic
import Derived.BigQuiet
import Derived.Outline
import Derived.Handy
import Derived.Lib.Hide
import Derived.Laws.MakeOwn
set_option linter.unusedVariables false
set_option linter.unusedSimpArgs false
set_option maxRecDepth 100000
set_option maxHeartbeats 40000000
namespace Go.Proofs.YtpmkpckldnnigaaGreat
open Go.RowKit
theorem gwn {b : Nat} {w w' : World} (h : Below b w w' := by (repeat' (first | (with_reducible exact Below.refl _ _) | (with_reducible assumption) | (with_reducible refine Below.drew ?_) | (with_reducible refine below_drewN ?_ _) | (with_reducible refine Below.alloc ?_ ?_ _) | (with_reducible refine Below.setCell ?_ ?_ _) | omega | (simp; done) | (simp; omega)))) : Below b w w' := h
theorem szz {p : Prop} (h : p := by first | omega | (simp; done) | (simp; omega)) : p := h
theorem blq {w : World} {g : Nat} {t : TypeId} {cs : List Value} (h : Blk w g t cs := by (repeat' (first | (with_reducible assumption) | (with_reducible refine Blk.top _ (by first | rfl | omega | (simp; done) | (simp; omega)) rfl) | (with_reducible refine Blk.alloc ?_ _) | (with_reducible refine Blk.drew ?_) | (with_reducible refine Blk.drewN ?_ _) | (with_reducible refine Blk.far ?_ (by first | omega | (simp; done) | (simp; omega)) _)))) : Blk w g t cs := h
theorem bls {w : World} {g : Nat} {t : TypeId} {cs : List Value} (h : Blk w g t cs := by (repeat' (first | (with_reducible assumption) | (with_reducible refine Blk.top _ (by first | rfl | omega | (simp; done) | (simp; omega)) rfl) | (with_reducible refine Blk.alloc ?_ _) | (with_reducible refine Blk.drew ?_) | (with_reducible refine Blk.drewN ?_ _) | (with_reducible refine Blk.setCellsFar (by first | omega | (simp; done) | (simp; omega)) _ _ _ ?_) | (with_reducible refine Blk.far ?_ (by first | omega | (simp; done) | (simp; omega)) _)))) : Blk w g t cs := h
theorem nmz {p q : Prop} (h : q) (e : p = q := by ((try (conv => lhs; simp only [List.getElem_toArray, List.getElem_cons_zero, List.getElem_cons_succ, Act.put, List.setIfInBounds_toArray, List.set_cons_zero, List.set_cons_succ])); try exact rfl)) : p := e ▸ h
theorem omg {p : Prop} (h : p := by omega) : p := h
theorem smp {p : Prop} (h : p := by simp) : p := h
theorem dcd {p : Prop} (h : p := by decide) : p := h
theorem uml {p : Prop} (h : p := by unfold maxLen; omega) : p := h
theorem nlr {n : Nat} : n ≤ n := Nat.le_refl n
theorem hdd {p : Prop} (h : p) : Hid p := Lib.hid h
section
variable {P : Program} {ops : Array Oper} {Q : Exit → Act → World → Prop} {md : Region.Mode} {S : World → Prop}
theorem tkS (i : Nat) {oi : Oper} {v : Value} {fuel : Nat} {listed : Array Bool} {a : Act} {w : World} {q : Prop} (h : q) (hi : ops[i]? = some oi := by rfl)
    (hs : Region.noSelect ops = true := by decide +kernel) (hf : Region.free md ops listed i = true := by decide +kernel) (hr : (Region.ready md ops listed).contains i = true := by decide +kernel)
    (hQ : ∀ c a w, Q (.panic c) (a.put oi.dst v) w → Q (.panic c) a w := by exact fun _ _ _ h => h)
    (hy : YieldsIf P ops S oi v a := by (refine Or.inl ⟨by rfl, ?_⟩; intro w hSw; (try dsimp only at hSw); go_simp; try (with_reducible rfl))) (hS : S w := by assumption)
    (e : wpAnyH P md ops Q S fuel (listed.setIfInBounds i true) (a.put oi.dst v) w = q := by ((try (conv => lhs; simp only [List.getElem_toArray, List.getElem_cons_zero, List.getElem_cons_succ, Act.put, List.setIfInBounds_toArray, List.set_cons_zero, List.set_cons_succ])); try exact rfl)) : wpAnyH P md ops Q S (fuel + 1) listed a w :=
  wpAnyH_take hi hs hf hr hQ hy hS (e ▸ h)
theorem tkU (i : Nat) {oi : Oper} {fuel : Nat} {listed : Array Bool} {a : Act} {w : World} {q : Prop} (h : q) (hi : ops[i]? = some oi := by rfl)
    (hs : Region.noSelect ops = true := by decide +kernel) (hf : Region.free md ops listed i = true := by decide +kernel) (hr : (Region.ready md ops listed).contains i = true := by decide +kernel)
    (hQ : ∀ c a w, Q (.panic c) (a.put oi.dst undef) w → Q (.panic c) a w := by exact fun _ _ _ h => h)
    (hy : YieldsIf P ops S oi undef a := by exact Or.inr ⟨by rfl, rfl⟩) (hS : S w := by assumption)
    (e : wpAnyH P md ops Q S fuel (listed.setIfInBounds i true) (a.put oi.dst undef) w = q := by ((try (conv => lhs; simp only [List.getElem_toArray, List.getElem_cons_zero, List.getElem_cons_succ, Act.put, List.setIfInBounds_toArray, List.set_cons_zero, List.set_cons_succ])); try exact rfl)) : wpAnyH P md ops Q S (fuel + 1) listed a w :=
  wpAnyH_take hi hs hf hr hQ hy hS (e ▸ h)
theorem on1 (i : Nat) {o : Oper} {fuel : Nat} {listed : Array Bool} {a : Act} {w : World}
    (h : ∀ K' : Act → World → Prop, Shut (∀ a w, S w → (S w → wpAnyH P md ops Q S fuel (listed.setIfInBounds i true) a w) → K' a w) → if Region.wanted o (yielded ops a.tmps) = true then Oper.wp P o a w K' Q else K' (a.put o.dst undef) w)
    (ho : ops[i]? = some o := by rfl) (hr : Region.ready md ops listed = [i] := by decide +kernel) : wpAnyH P md ops Q S (fuel + 1) listed a w :=
  wpAnyH_ready hr (by simp) (AllReadyH.cons ho h AllReadyH.nil)
end
def tab (n : Nat) (f : Nat → Nat) : List Int := (List.range n).map fun i => (f i : Int)
def bit (x i : Nat) : Nat := x / 2 ^ i % 2
theorem tab_len (n : Nat) (f : Nat → Nat) : (tab n f).length = n := by simp [tab]
theorem tab_at {n k : Nat} (f : Nat → Nat) (h : k < n) : qd5 (tab n f) k = (f k : Int) := by simp [qd5, tab, List.getD_eq_getElem?_getD, h]
theorem qu8 (n : Nat) (f : Nat → Nat) : tab n f ++ [(f n : Int)] = tab (n + 1) f := by simp [tab, List.range_succ]
theorem tab_set {n k : Nat} (f : Nat → Nat) (v : Nat) (h : k < n) : (tab n f).set k (v : Int) = tab n (fun i => if i = k then v else f i) := by
  apply List.ext_getElem?; intro i
  by_cases hi : i = k
  · subst hi; rw [List.getElem?_set_self (by rw [tab_len]; exact h)]; simp [tab, h]
  · rw [List.getElem?_set_ne omg]; rcases Nat.lt_or_ge i n with h1 | h1
    · simp [tab, h1, hi]
    · rw [List.getElem?_eq_none (by rw [tab_len]; exact h1), List.getElem?_eq_none (by rw [tab_len]; exact h1)]
theorem ql9 {n : Nat} {f g : Nat → Nat} (h : ∀ i, i < n → f i = g i) : tab n f = tab n g := by
  unfold tab; apply List.map_congr_left; intro i hi; rw [h i (List.mem_range.1 hi)]
theorem qp7 (x i : Nat) : bit x i ≤ 1 := by unfold bit; omega
theorem bit_half (x i : Nat) : bit (x / 2) i = bit x (i + 1) := by unfold bit; rw [Nat.div_div_eq_div_mul, Nat.pow_succ, Nat.mul_comm]
theorem vf1 (x y i : Nat) : bit (x ^^^ y) i = (bit x i + bit y i) % 2 := by
  unfold bit; have h := Nat.testBit_xor x y i; simp only [Nat.testBit_eq_decide_div_mod_eq] at h; rcases Nat.mod_two_eq_zero_or_one (x / 2 ^ i) with hx | hx <;> rcases Nat.mod_two_eq_zero_or_one (y / 2 ^ i) with hy | hy <;> rcases Nat.mod_two_eq_zero_or_one ((x ^^^ y) / 2 ^ i) with hz | hz <;> simp [hx, hy, hz] at h ⊢
theorem qy9 {x n i : Nat} (h : x < 2 ^ n) (hi : n ≤ i) : bit x i = 0 := by
  unfold bit; rw [Nat.div_eq_of_lt (Nat.lt_of_lt_of_le h (Nat.pow_le_pow_right omg hi))]
section
variable {w : World} {base g n c : Nat} {e : TypeId} {f : Nat → Nat}
theorem Ow.tab_cell (h : Ow iv w base e (some ⟨g, 0, none⟩) n c (tab n f)) {k : Nat} (hk : k < n) : w.cell? ⟨g, k, none⟩ = some (.int .i64 (f k : Nat)) := by
  obtain ⟨b, o, hA, _, hc⟩ := h.rd.ri.at_ hk; injection hA with hA; injection hA with h1 h2 _; subst h1 h2; rw [Nat.zero_add] at hc; rw [hc, tab_at f hk]
theorem Ow.tab_set (h : Ow iv w base e (some ⟨g, 0, none⟩) n c (tab n f)) {f' : Nat → Nat} (k : Nat) (v : Nat) (u : Value) (hk : k < n) (hu : u = .int .i64 (v : Nat)) (hf : ∀ i, i < n → (if i = k then v else f i) = f' i) :
    Ow iv (w.setCell ⟨g, k, none⟩ u) base e (some ⟨g, 0, none⟩) n c (tab n f') := by
  have := h.set k ((v : Nat) : Int) u hu
  rwa [Go.Proofs.YtpmkpckldnnigaaGreat.tab_set f v hk, ql9 hf] at this
theorem Ow.drew' {α : Type} {enc : α → Value} {A : Option Addr} {l : List α} (h : Ow enc w base e A n c l) : Ow enc w.drew base e A n c l := h
end
def tabB (n : Nat) (f : Nat → Nat) : List UInt8 := (List.range n).map fun i => UInt8.ofNat (f i)
theorem qx6 (n : Nat) (f : Nat → Nat) : (tabB n f).length = n := by simp [tabB]
theorem tabB_at {n k : Nat} (f : Nat → Nat) (h : k < n) (hf : f k < 256) : qa2 (tabB n f) k = f k := by
  simp only [qa2, tabB, List.getD_eq_getElem?_getD, List.getElem?_map, List.getElem?_range h, Option.map_some, Option.getD_some]; exact UInt8.toNat_ofNat_of_lt' (by simp [UInt8.size]; omega)
theorem vc9 (n : Nat) (f : Nat → Nat) : tabB n f ++ [UInt8.ofNat (f n)] = tabB (n + 1) f := by simp [tabB, List.range_succ]
theorem qz0 {n : Nat} {f g : Nat → Nat} (h : ∀ i, i < n → f i = g i) : tabB n f = tabB n g := by
  unfold tabB; apply List.map_congr_left; intro i hi; rw [h i (List.mem_range.1 hi)]
theorem tabB_set {n k : Nat} (f : Nat → Nat) (v : Nat) (h : k < n) : (tabB n f).set k (UInt8.ofNat v) = tabB n (fun i => if i = k then v else f i) := by
  apply List.ext_getElem?; intro i
  by_cases hi : i = k
  · subst hi; rw [List.getElem?_set_self (by rw [qx6]; exact h)]; simp [tabB, h]
  · rw [List.getElem?_set_ne omg]; rcases Nat.lt_or_ge i n with h1 | h1
    · simp [tabB, h1, hi]
    · rw [List.getElem?_eq_none (by rw [qx6]; exact h1), List.getElem?_eq_none (by rw [qx6]; exact h1)]
theorem tabB_take {n m : Nat} (f : Nat → Nat) (h : m ≤ n) : (tabB n f).take m = tabB m f := by
  unfold tabB; rw [← List.map_take, List.take_range]; congr 2; omega
theorem qi2 {v : Nat} (h : v < 256) : bv (UInt8.ofNat v) = .int .u8 (v : Nat) := by
  unfold bv; rw [UInt8.toNat_ofNat_of_lt' (by simp [UInt8.size]; omega)]
section
variable {w : World} {base g n c : Nat} {e : TypeId} {f : Nat → Nat}
theorem Ow.tabB_set (h : Ow bv w base e (some ⟨g, 0, none⟩) n c (tabB n f)) {f' : Nat → Nat} (k : Nat) (v : Nat) (u : Value) (hk : k < n) (hv : v < 256) (hu : u = .int .u8 (v : Nat)) (hf : ∀ i, i < n → (if i = k then v else f i) = f' i) :
    Ow bv (w.setCell ⟨g, k, none⟩ u) base e (some ⟨g, 0, none⟩) n c (tabB n f') := by
  have := h.set k (UInt8.ofNat v) u (by rw [qi2 hv]; exact hu)
  rwa [Go.Proofs.YtpmkpckldnnigaaGreat.tabB_set f v hk, qz0 hf] at this
end
theorem qi4 {P : Program} {t e : TypeId} {z : Value} {bytes : Nat} (hE : qg4 P t e z 1 bytes) (n : Nat) (hb : bytes * n ≤ 281474976710656) (h63 : n ≤ 9223372036854775807) (W : World) :
    (Instr.makeSlice t (.int .i64 (n : Int)) (.int .i64 (n : Int))).run P W = .ok (.slice (some ⟨W.heap.size, 0, none⟩) n n) (W.alloc (.cells (madeCells z.cells n) e)) := by
  obtain ⟨ht, ⟨i, hi, hz, hs, hby⟩, hzs, _⟩ := hE; have h : (i.bytes : Int) * (n : Int) ≤ 281474976710656 := by
    rw [hby]; have : ((bytes * n : Nat) : Int) ≤ 281474976710656 := omg
    rwa [Int.natCast_mul] at this
  have hr := run_make (P := P) W t e i z ht hi hz .i64 .i64 n n omg omg h omg; simp only [Int.toNat_natCast, hs, Nat.mul_one] at hr; exact hr
theorem Ow.made {α : Type} {enc : α → Value} (w : World) (e : TypeId) (x : α) (z : Value) (n : Nat) (hz : z.cells = #[enc x]) (hm : n ≤ maxLen) :
    Ow enc (w.alloc (.cells (madeCells z.cells n) e)) w.heap.size e (some ⟨w.heap.size, 0, none⟩) n n (List.replicate n x) := by
  have := Ow.new (enc := enc) w e (madeCells z.cells n) (List.replicate n x) (by rw [hz, toList_madeCells_one]; simp) (by simpa using hm); simpa using this
theorem tabB_zero (n : Nat) : List.replicate n (0 : UInt8) = tabB n (fun _ => 0) := by simp [tabB, List.map_const']
theorem tab_zero (n : Nat) : List.replicate n (0 : Int) = tab n (fun _ => 0) := by simp [tab, List.map_const']
def un (n : Int) : Nat := (n % 18446744073709551616).toNat
def sg (u : Nat) : Int := if u < 9223372036854775808 then (u : Int) else (u : Int) - 18446744073709551616
theorem un_lt (n : Int) : un n < 18446744073709551616 := by unfold un; omega
theorem un_sg {u : Nat} (h : u < 18446744073709551616) : un (sg u) = u := by unfold sg un; split <;> omega
theorem sg_bd {u : Nat} (h : u < 18446744073709551616) : -9223372036854775808 ≤ sg u ∧ sg u ≤ 9223372036854775807 := by unfold sg; split <;> omega
theorem wrap_un (n : Int) : IntKind.u64.wrap n = (un n : Nat) := by rw [IntKind.wrap_u64]; unfold un; omega
theorem wrap_sg {u : Nat} (h : u < 18446744073709551616) : IntKind.i64.wrap (u : Int) = sg u := by rw [IntKind.wrap_i64]; unfold sg; split <;> omega
def putL (u : Nat) : List UInt8 := tabB 8 (fun i => u / 256 ^ i % 256)
def getL : List UInt8 → Nat
  | [] => 0
  | c :: l => c.toNat + 256 * getL l
theorem vk3 (l : List UInt8) : getL l < 256 ^ l.length := by
  induction l with
  | nil => simp [getL]
  | cons c l ih =>
    have := c.toNat_lt; simp only [getL, List.length_cons, Nat.pow_succ]; omega
theorem qy0 (u : Nat) : (putL u).length = 8 := by simp [putL, qx6]
def digL : Nat → Nat → List UInt8
  | 0, n => [UInt8.ofNat n]
  | f + 1, n => if n < 128 then [UInt8.ofNat n] else UInt8.ofNat (n % 128 + 128) :: digL f (n / 128)
def zz (n : Int) : Nat := if 0 ≤ n then (2 * n).toNat else (-2 * n - 1).toNat
theorem zz_lt {n : Int} (h0 : -9223372036854775808 ≤ n) (h1 : n ≤ 9223372036854775807) : zz n < 18446744073709551616 := by unfold zz; split <;> omega
theorem digL_lt' {f n : Nat} (h : n < 128) : digL f n = [UInt8.ofNat n] := by
  cases f with
  | zero => rfl
  | succ f => unfold digL; rw [if_pos h]
theorem qf8 (f : Nat) : ∀ n, (digL f n).length ≤ f + 1 ∧ 1 ≤ (digL f n).length := by
  induction f with
  | zero => intro n; simp [digL]
  | succ f ih =>
    intro n; unfold digL
    split
    · simp
    · have := ih (n / 128); simp; omega
/-! ### What the readers answer -/
theorem vj8 (n : Int) (w : World) : Calls Tryz.prog 130 #[.int .i64 n] w fun e w' => ∃ A c, e = .returned (.slice A 8 c) ∧ OB w' w.heap.size 5 A 8 c (putL (un n)) ∧ Below w.heap.size w w' := by
  have hw := wrap_un n; have hu := un_lt n; generalize un n = U at *; have hmk : ∀ W : World, (Instr.makeSlice 22 (.int .i64 8) (.int .i64 8)).run Tryz.prog W = .ok (.slice (some ⟨W.heap.size, 0, none⟩) 8 8) (W.alloc (.cells (madeCells (Value.int .u8 0).cells 8) 5)) := qi4 qb4 8 omg omg; have hown0 : Ow bv (w.alloc (.cells (madeCells (Value.int .u8 0).cells 8) 5)) w.heap.size 5 (some ⟨w.heap.size, 0, none⟩) 8 8 (tabB 8 (fun i => if i < 0 then U / 256 ^ i % 256 else 0)) := by
    have := Ow.made (enc := bv) w 5 0 (.int .u8 0) 8 rfl dcd
    rwa [tabB_zero] at this
  have hb0 : Below w.heap.size w (w.alloc (.cells (madeCells (Value.int .u8 0).cells 8) 5)) := gwn; go_enter Tryz.func130, Tryz.ntmps130; go_wp2; go_loopw [4, 11] (fun uu kk wr => ∃ k u, k ≤ 8 ∧ kk = .int .i64 (k : Nat) ∧ uu = .int .u64 (u : Nat) ∧ Hid (u = U / 256 ^ k) ∧ u < 18446744073709551616 ∧ Ow bv wr w.heap.size 5 (some ⟨w.heap.size, 0, none⟩) 8 8 (tabB 8 (fun i => if i < k then U / 256 ^ i % 256 else 0)) ∧ Below w.heap.size w wr) (fun _ kk _ => 8 - (intOf kk).toNat)
  case atStart => exact ⟨0, U, omg, rfl, rfl, by show U = U / 256 ^ 0; omega, hu, hown0, hb0⟩
  case round =>
    obtain ⟨k, u, hk, rfl, rfl, hU, hu, hown, hb⟩ := hrel; have hbs := hb.size
    by_cases hk8 : k < 8
    · have hfree := hown.free k; have hset := fun v hv => hdd (hown.tabB_set (f' := fun i => if i < k + 1 then U / 256 ^ i % 256 else 0) k (u % 256) v hk8 omg hv (fun i hi => by
        by_cases h1 : i = k
        · subst h1; simp [hU.out]
        · by_cases h2 : i < k
          · simp [h1, h2, Nat.lt_succ_of_lt h2]
          · simp [h1, h2, show ¬ i < k + 1 from by omega]))
      have hU2 : Hid (u / 256 = U / 256 ^ (k + 1)) := by
        show _ = _
        rw [hU.out, Nat.div_div_eq_div_mul, Nat.pow_succ]
      obtain ⟨b1, o1, hA, _, hc⟩ := hown.rd.rb.at_ hk8; injection hA with hA; injection hA with h1 h2 _; subst h1 h2; rw [Nat.zero_add] at hc; clear hown; go_wp2; go_roundw
      case rel => exact ⟨k + 1, u / 256, omg, by go_num, by go_num, hU2, omg, (hset _ (by first | rfl | (congr 1; omega))).out, gwn⟩
      case measure => simp [intOf]; omega
    · have hk9 : k = 8 := omg; subst hk9; go_wp2; go_ret; refine ⟨_, 8, rfl, ?_, hb⟩; unfold putL; rw [qz0 (g := fun i => U / 256 ^ i % 256)] at hown
      · exact hown
      · intro i hi; simp [hi]
theorem qz7 (a : Nat) (ha : a < 18446744073709551616) : (BitVec.ofInt 64 (a : Int)).toNat = a := by
  rw [BitVec.ofInt_natCast, BitVec.toNat_ofNat]; exact Nat.mod_eq_of_lt omg
theorem u64_shl8_or (u y : Nat) (hu : u ≤ 72057594037927935) (hy : y < 256) : bits .or .u64 ((u : Int) * 256) (y : Int) = ((y + 256 * u : Nat) : Int) := by
  have h := Nat.two_pow_add_eq_or_of_lt (i := 8) (b := y) omg u
  show IntKind.u64.wrap ((BitVec.ofInt 64 ((u * 256 : Nat) : Int) ||| BitVec.ofInt 64 (y : Int)).toNat : Int) = _
  rw [BitVec.toNat_or, qz7 _ omg, qz7 y omg, IntKind.wrap_u64, show u * 256 = 2 ^ 8 * u from by omega, ← h]; omega
theorem getL_drop (l : List UInt8) (k : Nat) (h : k < l.length) : getL (l.drop k) = qa2 l k + 256 * getL (l.drop (k + 1)) := by
  rw [List.drop_eq_getElem_cons h]; simp [getL, qa2, List.getD_eq_getElem?_getD, h]
theorem vk2 (A : Option Addr) (c : Nat) (l : List UInt8) (w : World) (hl : RB w A 8 l) : Calls Tryz.prog 205 #[.slice A 8 c] w fun e w' => e = .returned (.tuple #[.int .i64 (sg (getL l)), .int .i64 0]) ∧ w = w' := by
  have hlt : getL l < 18446744073709551616 := by have := vk3 l; rw [hl.1] at this; omega
  have hwr := wrap_sg hlt; have hlen := hdd hl.1; generalize hz : sg (getL l) = z at *; clear hz; go_enter Tryz.func205, Tryz.ntmps205; go_wp2; go_loop [4, 5] (fun uu kk => ∃ k u, k ≤ 8 ∧ kk = .int .i64 (8 - (k : Nat)) ∧ uu = .int .u64 (u : Nat) ∧ Hid (u = getL (l.drop (8 - k)))) (fun _ kk => (intOf kk).toNat)
  case atStart => exact ⟨0, 0, omg, rfl, rfl, by show 0 = _; rw [List.drop_of_length_le (by rw [hlen.out]; omega)]; rfl⟩
  case round =>
    obtain ⟨k, u, hk, rfl, rfl, hU⟩ := hrel
    by_cases hk8 : k < 8
    · obtain ⟨b, o, rfl, _, hc⟩ := hl.at_ (k := 7 - k) omg; rw [show o + (7 - k) = o + (8 - k - 1) from by omega] at hc; have hb := qf9 l (7 - k); have hd := getL_drop l (7 - k) (by rw [hlen.out]; omega); rw [show 7 - k + 1 = 8 - k from by omega, ← hU.out] at hd; have hd2 : Hid (getL (l.drop (8 - (k + 1))) = qa2 l (7 - k) + 256 * u) := by rw [show 8 - (k + 1) = 7 - k from by omega]; exact hd
      clear hd; have hu : u ≤ 72057594037927935 := by
        rw [hU.out]; have h1 := vk3 (l.drop (8 - k)); have h2 : (l.drop (8 - k)).length ≤ 7 := by rw [List.length_drop, hlen.out]; omega
        have h3 : 256 ^ (l.drop (8 - k)).length ≤ 256 ^ 7 := Nat.pow_le_pow_right omg h2; omega
      generalize qa2 l (7 - k) = y at *; have hor := u64_shl8_or u y hu hb; go_wp2; go_round
      case rel => exact ⟨k + 1, y + 256 * u, omg, by go_num, by go_num, hd2.out.symm⟩
      case measure => simp [intOf]; omega
    · have hk9 : k = 8 := omg; subst hk9; have hU2 : u = getL l := hU.out; rw [← hU2] at hwr; clear hU hU2; go_wp2; go_ret2; exact ⟨rfl, rfl⟩
theorem vk7 {f n : Nat} (h : n < 128) : digL f n = [UInt8.ofNat n] := by
  cases f with
  | zero => rfl
  | succ f => unfold digL; rw [if_pos h]
theorem digits_u (u : Nat) (w : World) (hu : u < 18446744073709551616) : Calls Tryz.prog 255 #[.int .u64 u] w fun e w' => ∃ A c, e = .returned (.slice A (digL 9 u).length c) ∧ OB w' w.heap.size 5 A (digL 9 u).length c (digL 9 u) ∧ Below w.heap.size w w' := by
  generalize hz : digL 9 u = z at *; have Hz := hdd hz; clear hz; go_enter Tryz.func255, Tryz.ntmps255; go_wp2; go_loopw [0, 3] (fun nn v wr => ∃ f m A c L, Hid (f + L.length = 9) ∧ nn = .int .u64 (m : Nat) ∧ v = .slice A L.length c ∧ Hid (L ++ digL f m = z) ∧ Hid (m < 128 ^ (f + 1)) ∧ m < 18446744073709551616 ∧ OB wr w.heap.size 5 A L.length c L ∧ Below w.heap.size w wr) (fun nn _ _ => (intOf nn).toNat)
  case atStart => exact ⟨9, u, none, 0, [], rfl, rfl, rfl, Hz, by show u < _; omega, hu, Ow.nil _ _ _ _, Below.refl _ _⟩
  case round =>
    obtain ⟨f, m, A, c, L, hf, rfl, rfl, hL, hm, hm64, hown, hb⟩ := hrel; have hbs := hb.size
    by_cases hbig : 128 ≤ m
    · obtain ⟨f, rfl⟩ : ∃ k, f = k + 1 := by
        cases f with
        | zero => have := hm.out; omega
        | succ f => exact ⟨f, rfl⟩
      have hL2 : Hid ((L ++ [UInt8.ofNat (m % 128 + 128)]) ++ digL f (m / 128) = z) := by
        show _ = _
        rw [← hL.out]; conv => rhs; unfold digL
        rw [if_neg omg]; simp
      have hm2 : Hid (m / 128 < 128 ^ (f + 1)) := by
        show m / 128 < _
        have := hm.out; rw [Nat.pow_succ] at this; omega
      have hf9 : L.length ≤ 8 := by have := hf.out; omega
      have hlen : (L ++ [UInt8.ofNat (m % 128 + 128)]).length = L.length + 1 := by simp
      have hbv := hdd (qi2 (v := m % 128 + 128) omg); generalize hN : L ++ [UInt8.ofNat (m % 128 + 128)] = L2 at *; have HN := hdd hN; have Hlen := hdd hlen; clear hN hlen; go_wp2_with (at_builtin; refine qa6 rfl rfl qb4 qc2 (s := .tmp 6) (N := L.length + 1) (L := L2) rfl (hown.below (b := wr.heap.size) gwn szz) rfl (k := [UInt8.ofNat (m % 128 + 128)]) (Rd.of_block (l := [UInt8.ofNat (m % 128 + 128)]) (qb7 _ _ smp) (by first | exact congrArg (fun x => [x]) hbv.out.symm | (show [_] = [_]; congr 1; rw [hbv.out]; congr 1; omega))) rfl HN.out uml omg szz ?_; intro A5 c5 w5 hown5 hg5 hat5 hb5); replace hb5 := qa0 (a := w) (B := w.heap.size) gwn hb5 szz; have hb5s := hb5.size; go_roundw
      case rel => exact ⟨f, m / 128, A5, c5, L2, by show f + L2.length = 9; have := hf.out; rw [Hlen.out]; omega, by go_num, by rw [Hlen.out], hL2, hm2, omg, by rw [Hlen.out]; exact hown5, hb5⟩
      case measure => simp [intOf]; omega
    · have hL2 : Hid (L ++ [UInt8.ofNat m] = z) := by
        show _ = _
        rw [← hL.out, vk7 omg]
      have hf9 : L.length ≤ 9 := by have := hf.out; omega
      have hlen : Hid (z.length = L.length + 1) := by show _ = _; rw [← hL2.out]; simp
      have hbv := hdd (qi2 (v := m) omg); go_wp2_with (at_builtin; refine qa6 rfl rfl qb4 qc2 (s := .tmp 15) (N := L.length + 1) (L := z) rfl (hown.below (b := wr.heap.size) gwn szz) rfl (k := [UInt8.ofNat m]) (Rd.of_block (l := [UInt8.ofNat m]) (qb7 _ _ smp) (by first | exact congrArg (fun x => [x]) hbv.out.symm | (show [_] = [_]; congr 1; rw [hbv.out]; congr 1; omega))) rfl hL2.out uml omg szz ?_; intro A5 c5 w5 hown5 hg5 hat5 hb5); replace hb5 := qa0 (a := w) (B := w.heap.size) gwn hb5 szz; have hb5s := hb5.size; go_ret; rw [hlen.out]; exact ⟨A5, c5, rfl, hown5, hb5⟩
theorem digits_i (u : Nat) (w : World) (hu : u < 9223372036854775808) : Calls Tryz.prog 273 #[.int .i64 u] w fun e w' => ∃ A c, e = .returned (.slice A (digL 9 u).length c) ∧ OB w' w.heap.size 5 A (digL 9 u).length c (digL 9 u) ∧ Below w.heap.size w w' := by
  generalize hz : digL 9 u = z at *; have Hz := hdd hz; clear hz; go_enter Tryz.func273, Tryz.ntmps273; go_wp2; go_loopw [0, 3] (fun nn v wr => ∃ f m A c L, Hid (f + L.length = 9) ∧ nn = .int .i64 (m : Nat) ∧ v = .slice A L.length c ∧ Hid (L ++ digL f m = z) ∧ Hid (m < 128 ^ (f + 1)) ∧ m < 9223372036854775808 ∧ OB wr w.heap.size 5 A L.length c L ∧ Below w.heap.size w wr) (fun nn _ _ => (intOf nn).toNat)
  case atStart => exact ⟨9, u, none, 0, [], rfl, rfl, rfl, Hz, by show u < _; omega, hu, Ow.nil _ _ _ _, Below.refl _ _⟩
  case round =>
    obtain ⟨f, m, A, c, L, hf, rfl, rfl, hL, hm, hm64, hown, hb⟩ := hrel; have hbs := hb.size
    by_cases hbig : 128 ≤ m
    · obtain ⟨f, rfl⟩ : ∃ k, f = k + 1 := by
        cases f with
        | zero => have := hm.out; omega
        | succ f => exact ⟨f, rfl⟩
      have hL2 : Hid ((L ++ [UInt8.ofNat (m % 128 + 128)]) ++ digL f (m / 128) = z) := by
        show _ = _
        rw [← hL.out]; conv => rhs; unfold digL
        rw [if_neg omg]; simp
      have hm2 : Hid (m / 128 < 128 ^ (f + 1)) := by
        show m / 128 < _
        have := hm.out; rw [Nat.pow_succ] at this; omega
      have hf9 : L.length ≤ 8 := by have := hf.out; omega
      have hlen : (L ++ [UInt8.ofNat (m % 128 + 128)]).length = L.length + 1 := by simp
      have hbv := hdd (qi2 (v := m % 128 + 128) omg); generalize hN : L ++ [UInt8.ofNat (m % 128 + 128)] = L2 at *; have HN := hdd hN; have Hlen := hdd hlen; clear hN hlen; go_wp2_with (at_builtin; refine qa6 rfl rfl qb4 qc2 (s := .tmp 6) (N := L.length + 1) (L := L2) rfl (hown.below (b := wr.heap.size) gwn szz) rfl (k := [UInt8.ofNat (m % 128 + 128)]) (Rd.of_block (l := [UInt8.ofNat (m % 128 + 128)]) (qb7 _ _ smp) (by first | exact congrArg (fun x => [x]) hbv.out.symm | (show [_] = [_]; congr 1; rw [hbv.out]; congr 1; omega))) rfl HN.out uml omg szz ?_; intro A5 c5 w5 hown5 hg5 hat5 hb5); replace hb5 := qa0 (a := w) (B := w.heap.size) gwn hb5 szz; have hb5s := hb5.size; go_roundw
      case rel => exact ⟨f, m / 128, A5, c5, L2, by show f + L2.length = 9; have := hf.out; rw [Hlen.out]; omega, by go_num, by rw [Hlen.out], hL2, hm2, omg, by rw [Hlen.out]; exact hown5, hb5⟩
      case measure => simp [intOf]; omega
    · have hL2 : Hid (L ++ [UInt8.ofNat m] = z) := by
        show _ = _
        rw [← hL.out, vk7 omg]
      have hf9 : L.length ≤ 9 := by have := hf.out; omega
      have hlen : Hid (z.length = L.length + 1) := by show _ = _; rw [← hL2.out]; simp
      have hbv := hdd (qi2 (v := m) omg); go_wp2_with (at_builtin; refine qa6 rfl rfl qb4 qc2 (s := .tmp 15) (N := L.length + 1) (L := z) rfl (hown.below (b := wr.heap.size) gwn szz) rfl (k := [UInt8.ofNat m]) (Rd.of_block (l := [UInt8.ofNat m]) (qb7 _ _ smp) (by first | exact congrArg (fun x => [x]) hbv.out.symm | (show [_] = [_]; congr 1; rw [hbv.out]; congr 1; omega))) rfl hL2.out uml omg szz ?_; intro A5 c5 w5 hown5 hg5 hat5 hb5); replace hb5 := qa0 (a := w) (B := w.heap.size) gwn hb5 szz; have hb5s := hb5.size; go_ret; rw [hlen.out]; exact ⟨A5, c5, rfl, hown5, hb5⟩
theorem short_any (n : Nat) (w : World) (h : n < 9223372036854775808) : Calls Tryz.prog 254 #[.int .i64 n] w fun e w' => ∃ A c, e = .returned (.tuple #[.slice A (digL 9 n).length c, .int .i64 0]) ∧ OB w' w.heap.size 5 A (digL 9 n).length c (digL 9 n) ∧ Below w.heap.size w w' := by
  have h1 : ¬ ((n : Nat) : Int) < 0 := omg; have hd := fun w => digits_i n w h
  go_enter Tryz.func254, Tryz.ntmps254; go_wp2_with (go_at_call 273; (with_reducible refine (hd _).mono ?_); rintro e w1 ⟨A, c, rfl, hown, hb⟩); go_ret2; exact ⟨A, c, rfl, hown, hb⟩
theorem u64_flip (x : Nat) (hx : x < 18446744073709551616) : bits .xor .u64 (x : Int) 18446744073709551615 = ((18446744073709551615 - x : Nat) : Int) := by
  show IntKind.u64.wrap ((BitVec.ofInt 64 (x : Int) ^^^ BitVec.ofInt 64 18446744073709551615).toNat : Int) = _
  have h1 : BitVec.ofInt 64 18446744073709551615 = BitVec.allOnes 64 := by decide
  rw [h1, BitVec.xor_allOnes, BitVec.toNat_not, qz7 x hx, IntKind.wrap_u64]; omega
theorem zig_bits (n : Int) (h0 : -9223372036854775808 ≤ n) (h1 : n ≤ 9223372036854775807) :
    bits .xor .u64 (IntKind.u64.wrap (IntKind.u64.wrap n * 2)) (IntKind.u64.wrap (n / 9223372036854775808)) = ((zz n : Nat) : Int) := by
  by_cases h : 0 ≤ n
  · have e1 : IntKind.u64.wrap (IntKind.u64.wrap n * 2) = (((2 * n).toNat : Nat) : Int) := by simp only [IntKind.wrap_u64]; omega
    have e2 : IntKind.u64.wrap (n / 9223372036854775808) = ((0 : Nat) : Int) := by simp only [IntKind.wrap_u64]; omega
    rw [e1, e2, bits_xor_u64_nat _ _ omg omg, Nat.xor_zero]; unfold zz; rw [if_pos h]
  · have e1 : IntKind.u64.wrap (IntKind.u64.wrap n * 2) = (((2 * n + 18446744073709551616).toNat : Nat) : Int) := by simp only [IntKind.wrap_u64]; omega
    have e2 : IntKind.u64.wrap (n / 9223372036854775808) = 18446744073709551615 := by simp only [IntKind.wrap_u64]; omega
    rw [e1, e2, u64_flip _ omg]; unfold zz; rw [if_neg h]; omega
theorem zig_any (n : Int) (w : World) (h0 : -9223372036854775808 ≤ n) (h1 : n ≤ 9223372036854775807) : Calls Tryz.prog 210 #[.int .i64 n] w fun e w' => ∃ A c, e = .returned (.slice A (digL 9 (zz n)).length c) ∧ OB w' w.heap.size 5 A (digL 9 (zz n)).length c (digL 9 (zz n)) ∧ Below w.heap.size w w' := by
  have hd := fun w => digits_u (zz n) w (zz_lt h0 h1)
  have hz := zig_bits n h0 h1; go_enter Tryz.func210, Tryz.ntmps210; go_wp2_with (go_at_call 255; (with_reducible refine (hd _).mono ?_); rintro e w1 ⟨A, c, rfl, hown, hb⟩); go_ret; exact ⟨A, c, rfl, hown, hb⟩
end Go.Proofs.YtpmkpckldnnigaaGreat
