/- Parts: NumC, NumD, PlainNumB, PlainNumC, PlainRow, PlainCode, CodeA. -/
import Derived.Test.YtpmkpckldnnigaaGreatPr02
import Derived.Test.YtpmkpckldnnigaaGreatPr01
set_option linter.unusedVariables false
set_option linter.unusedSimpArgs false
set_option maxRecDepth 100000
set_option maxHeartbeats 40000000
namespace Go.Proofs.YtpmkpckldnnigaaGreat
open Go.RowKit
theorem vc4 (x k : Nat) : bit x k = (x.testBit k).toNat := by
  unfold bit; rw [Nat.testBit_eq_decide_div_mod_eq]; rcases Nat.mod_two_eq_zero_or_one (x / 2 ^ k) with h | h <;> simp [h]
theorem bit_flip {n U k : Nat} (hU : U < 2 ^ n) (hk : k < n) : bit (2 ^ n - (U + 1)) k = 1 - bit U k := by
  rw [vc4, vc4, Nat.testBit_two_pow_sub_succ hU]; simp [hk]
  cases U.testBit k <;> rfl
theorem bit_zero (V s : Nat) (hs : s ≤ 1) : bit (2 * V + s) 0 = s := by unfold bit; rw [Nat.pow_zero, Nat.div_one]; omega
theorem bit_double (V s k : Nat) (hs : s ≤ 1) : bit (2 * V + s) (k + 1) = bit V k := by
  unfold bit; rw [Nat.pow_succ, Nat.mul_comm (2 ^ k) 2, ← Nat.div_div_eq_div_mul, show (2 * V + s) / 2 = V from by omega]
theorem zz_parts {n : Int} (h0 : -9223372036854775808 ≤ n) (h1 : n ≤ 9223372036854775807) :
    zz n = 2 * (if bit (un n) 63 = 1 then 2 ^ 64 - (un n + 1) else un n) + bit (un n) 63 := by
  have hb : bit (un n) 63 = un n / 9223372036854775808 % 2 := rfl; unfold zz; have hu : un n = (n % 18446744073709551616).toNat := rfl; rw [hb]
  by_cases hn : 0 ≤ n
  · rw [if_pos hn, if_neg omg]; omega
  · rw [if_neg hn, if_pos omg]; omega
theorem bit_zz0 {n : Int} (h0 : -9223372036854775808 ≤ n) (h1 : n ≤ 9223372036854775807) : bit (zz n) 0 = bit (un n) 63 := by
  rw [zz_parts h0 h1, bit_zero _ _ (qp7 _ _)]
theorem bit_zz {n : Int} (h0 : -9223372036854775808 ≤ n) (h1 : n ≤ 9223372036854775807) (k : Nat) (hk : k < 63) : bit (zz n) (k + 1) = if bit (un n) 63 = 1 then 1 - bit (un n) k else bit (un n) k := by
  rw [zz_parts h0 h1, bit_double _ _ _ (qp7 _ _)]
  split
  · exact bit_flip (un_lt n) omg
  · rfl
theorem digL_pos (f : Nat) : ∀ Z, Z < 128 ^ (f + 1) → Z < 128 ^ (digL f Z).length ∧ ((digL f Z).length = 1 ∨ 128 ^ ((digL f Z).length - 1) ≤ Z) := by
  induction f with
  | zero => intro Z h; simp [digL]; omega
  | succ f ih =>
    intro Z h
    by_cases hz : Z < 128
    · unfold digL; rw [if_pos hz]; simp; omega
    · have e := ih (Z / 128) (by rw [Nat.pow_succ] at h; omega); have hl := (qf8 f (Z / 128)).2; unfold digL; rw [if_neg hz]; simp only [List.length_cons]; generalize (digL f (Z / 128)).length = m at *; have e2 : 128 ^ m = 128 ^ (m - 1) * 128 := by
        cases m with
        | zero => omega
        | succ q => rw [Nat.pow_succ]; rfl
      refine ⟨by rw [Nat.pow_succ]; omega, .inr ?_⟩
      show 128 ^ (m + 1 - 1) ≤ Z
      rw [Nat.add_sub_cancel]; rcases e.2 with h1 | h1
      · subst h1; omega
      · omega
theorem digL_tab (f : Nat) : ∀ Z, Z < 128 ^ (f + 1) → digL f Z = tabB (digL f Z).length (fun i => if i + 1 < (digL f Z).length then Z / 128 ^ i % 128 + 128 else Z / 128 ^ i % 128) := by
  induction f with
  | zero => intro Z h; simp [digL, tabB, show Z % 128 = Z from by omega]
  | succ f ih =>
    intro Z h
    by_cases hz : Z < 128
    · have : digL (f + 1) Z = [UInt8.ofNat Z] := digL_lt' hz; rw [this]; simp [tabB, show Z % 128 = Z from by omega]
    · have hl := (qf8 f (Z / 128)).2; have e := ih (Z / 128) (by rw [Nat.pow_succ] at h; omega); have hd : digL (f + 1) Z = UInt8.ofNat (Z % 128 + 128) :: digL f (Z / 128) := by
        conv => lhs; unfold digL
        rw [if_neg hz]
      rw [hd]; simp only [List.length_cons]
      conv => lhs; rw [e]
      unfold tabB; rw [List.range_succ_eq_map, List.map_cons, List.map_map]
      congr 1
      · dsimp only; rw [if_pos omg]; simp
      · apply List.map_congr_left; intro i _; simp only [Function.comp, Nat.succ_eq_add_one, Nat.add_lt_add_iff_right]; rw [Nat.div_div_eq_div_mul, Nat.pow_succ, Nat.mul_comm 128]
def allK (n : Nat) (f : Nat → Bool) : Bool := (List.range n).all f
theorem qo2 {n : Nat} {f : Nat → Bool} : allK n f = true ↔ ∀ i, i < n → f i = true := by simp [allK, List.all_eq_true]
theorem vi9 {n k : Nat} {f : Nat → Bool} (hk : k < n) (h : f k = false) : allK n f = false := by
  rw [Bool.eq_false_iff]; intro hc; rw [qo2.1 hc k hk] at h; cases h
def tyB (t : Int) : Bool := t == 1 || t == 2
theorem qx4 {t : Int} : tyB t = true ↔ t = 1 ∨ t = 2 := by simp [tyB]
def qk0 (l : List Int) : Bool := allK l.length (fun i => tyB (qd5 l i)) && (decide (1 ≤ l.length) && decide (l.length ≤ 8))
theorem qi1 {l : List Int} : qk0 l = true ↔ (∀ i, i < l.length → qd5 l i = 1 ∨ qd5 l i = 2) ∧ 1 ≤ l.length ∧ l.length ≤ 8 := by
  unfold qk0; simp only [Bool.and_eq_true, qo2, decide_eq_true_eq, qx4]
def okAt (t v : Int) : Bool := !(t == 2) || (v == 0 || v == 1)
theorem okAt_true {t v : Int} : okAt t v = true ↔ (t = 2 → v = 0 ∨ v = 1) := by
  unfold okAt
  by_cases h : t = 2
  · subst h; simp
  · simp [h]
theorem okAt_false {t v : Int} : okAt t v = false ↔ (t = 2 ∧ v ≠ 0 ∧ v ≠ 1) := by
  unfold okAt
  by_cases h : t = 2
  · subst h; simp
  · simp [h]
structure Ins where
  op : Int
  a : Int
  b : Int
  c : Int
  k : Int
deriving DecidableEq
structure PV where
  ins : List Int
  outs : List Int
  regs : Int
  cells : List (Int × Int)
  code : List Ins
def cellE (x : Int × Int) : List Value := [.int .i64 x.1, .int .i64 x.2]
def insE (x : Ins) : List Value := [.int .i64 x.op, .int .i64 x.a, .int .i64 x.b, .int .i64 x.c, .int .i64 x.k]
theorem qj2 (x : Int × Int) : (cellE x).length = 2 := rfl
theorem qk8 (x : Ins) : (insE x).length = 5 := rfl
structure PA where
  A1 : Option Addr
  n1 : Nat
  c1 : Nat
  A2 : Option Addr
  n2 : Nat
  c2 : Nat
  A3 : Option Addr
  n3 : Nat
  c3 : Nat
  A4 : Option Addr
  n4 : Nat
  c4 : Nat
structure qc8 (w : World) (x : PA) (p : PV) : Prop where
  r1 : RI w x.A1 x.n1 p.ins
  r2 : RI w x.A2 x.n2 p.outs
  r3 : RdS 2 cellE w x.A3 x.n3 p.cells
  r4 : RdS 5 insE w x.A4 x.n4 p.code
  k1 : x.n1 ≤ x.c1 ∧ x.c1 ≤ maxLen
  k2 : x.n2 ≤ x.c2 ∧ x.c2 ≤ maxLen
  k3 : x.n3 ≤ x.c3 ∧ x.c3 ≤ maxLen
  k4 : x.n4 ≤ x.c4 ∧ x.c4 ≤ maxLen
theorem qc8.below {w w' : World} {x : PA} {p : PV} {b : Nat} (h : qc8 w x p) (hb : Below b w w') (hB : w.heap.size ≤ b) : qc8 w' x p :=
  ⟨h.r1.below hb hB, h.r2.below hb hB, h.r3.below hb hB, h.r4.below hb hB, h.k1, h.k2, h.k3, h.k4⟩
def qh7 (t n : Int) : Bool := t == 1 || (t == 2 && (n == 0 || n == 1))
def cls (op : Int) : Nat :=
  if op = 1 ∨ op = 2 ∨ op = 21 ∨ (28 ≤ op ∧ op ≤ 32) then 1
  else if op = 3 ∨ op = 5 ∨ op = 6 then 2
  else if 7 ≤ op ∧ op ≤ 20 then 3
  else if op = 27 then 4 else 0
theorem vc1 (op : Int) : (op = 1 ∨ op = 2 ∨ op = 21 ∨ (28 ≤ op ∧ op ≤ 32)) ∨ (op = 3 ∨ op = 5 ∨ op = 6) ∨ (7 ≤ op ∧ op ≤ 20) ∨ op = 27 ∨ (op ≤ 0 ∨ op = 4 ∨ (22 ≤ op ∧ op ≤ 26) ∨ 33 ≤ op) := omg
theorem cls_1 {op : Int} (h : op = 1 ∨ op = 2 ∨ op = 21 ∨ (28 ≤ op ∧ op ≤ 32)) : cls op = 1 := by unfold cls; rw [if_pos h]
theorem cls_2 {op : Int} (h : op = 3 ∨ op = 5 ∨ op = 6) : cls op = 2 := by unfold cls; rw [if_neg omg, if_pos h]
theorem cls_3 {op : Int} (h : 7 ≤ op ∧ op ≤ 20) : cls op = 3 := by unfold cls; rw [if_neg omg, if_neg omg, if_pos h]
theorem cls_4 {op : Int} (h : op = 27) : cls op = 4 := by unfold cls; rw [if_neg omg, if_neg omg, if_neg omg, if_pos h]
theorem cls_0 {op : Int} (h : op ≤ 0 ∨ op = 4 ∨ (22 ≤ op ∧ op ≤ 26) ∨ 33 ≤ op) : cls op = 0 := by unfold cls; rw [if_neg omg, if_neg omg, if_neg omg, if_neg omg]
theorem cls_le (op : Int) : cls op ≤ 4 := by
  rcases vc1 op with h | h | h | h | h
  · rw [cls_1 h]; omega
  · rw [cls_2 h]; omega
  · rw [cls_3 h]; omega
  · rw [cls_4 h]; omega
  · rw [cls_0 h]; omega
def vk6 (op : Int) : Int := match cls op with | 1 => 9 | 2 => 3 | 3 => 7 | 4 => 15 | _ => 0
def hasN (op : Int) : Int := match cls op with | 1 => 1 | 2 => 2 | 3 => 3 | 4 => 3 | _ => 0
def hasK (op : Int) : Bool := cls op == 1 || cls op == 4
def InsOk (x : Ins) : Prop := cls x.op ≠ 0 ∧ 0 ≤ x.a ∧ 0 ≤ x.b ∧ 0 ≤ x.c ∧ (cls x.op = 1 → x.b = 0) ∧ (cls x.op ≤ 2 → x.c = 0) ∧ (cls x.op = 2 ∨ cls x.op = 3 → x.k = 0)
instance (x : Ins) : Decidable (InsOk x) := by unfold InsOk; infer_instance
def insB (x : Ins) : Bool := decide (InsOk x)
def qf2 (l : List (Int × Int)) (i : Nat) : Int × Int := l.getD i (0, 0)
def qa1 (l : List Ins) (i : Nat) : Ins := l.getD i ⟨0, 0, 0, 0, 0⟩
def mayB (p : PV) : Bool := (qk0 p.ins && qk0 p.outs) && ((decide (0 ≤ p.regs) && decide (p.regs ≤ 1600)) && ((decide (p.cells.length ≤ 60) && decide (p.code.length ≤ 2048)) &&
  (allK p.cells.length (fun i => qh7 (qf2 p.cells i).1 (qf2 p.cells i).2) && allK p.code.length (fun i => insB (qa1 p.code i)))))
theorem qe9 {p : PV} : mayB p = true ↔ qk0 p.ins = true ∧ qk0 p.outs = true ∧ 0 ≤ p.regs ∧ p.regs ≤ 1600 ∧ p.cells.length ≤ 60 ∧ p.code.length ≤ 2048 ∧
    (∀ i, i < p.cells.length → qh7 (qf2 p.cells i).1 (qf2 p.cells i).2 = true) ∧ (∀ i, i < p.code.length → insB (qa1 p.code i) = true) := by
  unfold mayB; simp only [Bool.and_eq_true, qo2, decide_eq_true_eq]; constructor
  · rintro ⟨⟨h1, h2⟩, ⟨h3, h4⟩, ⟨h5, h6⟩, h7, h8⟩; exact ⟨h1, h2, h3, h4, h5, h6, h7, h8⟩
  · rintro ⟨h1, h2, h3, h4, h5, h6, h7, h8⟩; exact ⟨⟨h1, h2⟩, ⟨h3, h4⟩, ⟨h5, h6⟩, h7, h8⟩
theorem qk9 {l : List (Int × Int)} {i : Nat} {x : Int × Int} (h : l[i]? = some x) : qf2 l i = x := by unfold qf2; rw [List.getD_eq_getElem?_getD, h]; rfl
theorem qk4 {l : List Ins} {i : Nat} {x : Ins} (h : l[i]? = some x) : qa1 l i = x := by unfold qa1; rw [List.getD_eq_getElem?_getD, h]; rfl
def qm4 (x : Int × Int) : List UInt8 := UInt8.ofNat x.1.toNat :: digL 9 (zz x.2)
def qn5 (x : Ins) : List UInt8 := UInt8.ofNat x.op.toNat :: (digL 9 x.a.toNat ++ ((if 2 ≤ cls x.op then digL 9 x.b.toNat else []) ++ ((if 3 ≤ cls x.op then digL 9 x.c.toNat else []) ++ (if hasK x.op then digL 9 (zz x.k) else []))))
def qi9 (l : List Int) : List UInt8 := digL 9 l.length ++ l.map (fun t => UInt8.ofNat t.toNat)
def vi3 (p : PV) : List UInt8 := qi9 p.ins ++ qi9 p.outs ++ digL 9 p.regs.toNat ++ digL 9 p.cells.length
def qi6 (p : PV) : List UInt8 := vi3 p ++ p.cells.flatMap qm4 ++ digL 9 p.code.length ++ p.code.flatMap qn5
theorem vi5 (op : Int) (w : World) : Calls Tryz.prog 211 #[.int .i64 op] w fun e w' => e = .returned (.int .i64 (vk6 op)) ∧ w = w' := by
  unfold vk6; rcases vc1 op with h | h | h | h | h
  · rw [cls_1 h]; rcases h with rfl | rfl | rfl | h
    case inr.inr.inr =>
      have b1 : (op == 1) = false := by rw [beq_eq_false_iff_ne]; omega
      have b2 : (op == 2) = false := by rw [beq_eq_false_iff_ne]; omega
      have b3 : (op == 21) = false := by rw [beq_eq_false_iff_ne]; omega
      have h1 := h.1; have h2 := h.2; go_enter Tryz.func211, Tryz.ntmps211; go_wp2; go_ret; exact ⟨rfl, rfl⟩
    all_goals
      go_enter Tryz.func211, Tryz.ntmps211; go_wp2; go_ret; exact ⟨rfl, rfl⟩
  · rw [cls_2 h]; rcases h with rfl | rfl | rfl
    all_goals
      go_enter Tryz.func211, Tryz.ntmps211; go_wp2; go_ret; exact ⟨rfl, rfl⟩
  · rw [cls_3 h]; have b1 : (op == 1) = false := by rw [beq_eq_false_iff_ne]; omega
    have b2 : (op == 2) = false := by rw [beq_eq_false_iff_ne]; omega
    have b3 : (op == 21) = false := by rw [beq_eq_false_iff_ne]; omega
    have b4 : (op == 3) = false := by rw [beq_eq_false_iff_ne]; omega
    have b5 : (op == 5) = false := by rw [beq_eq_false_iff_ne]; omega
    have b6 : (op == 6) = false := by rw [beq_eq_false_iff_ne]; omega
    have h1 := h.1; have h2 := h.2; have h3 : ¬ 28 ≤ op := omg; go_enter Tryz.func211, Tryz.ntmps211; go_wp2; go_ret; exact ⟨rfl, rfl⟩
  · rw [cls_4 h]; subst h; go_enter Tryz.func211, Tryz.ntmps211; go_wp2; go_ret; exact ⟨rfl, rfl⟩
  · rw [cls_0 h]; have b1 : (op == 1) = false := by rw [beq_eq_false_iff_ne]; omega
    have b2 : (op == 2) = false := by rw [beq_eq_false_iff_ne]; omega
    have b3 : (op == 21) = false := by rw [beq_eq_false_iff_ne]; omega
    have b4 : (op == 3) = false := by rw [beq_eq_false_iff_ne]; omega
    have b5 : (op == 5) = false := by rw [beq_eq_false_iff_ne]; omega
    have b6 : (op == 6) = false := by rw [beq_eq_false_iff_ne]; omega
    have b7 : (op == 27) = false := by rw [beq_eq_false_iff_ne]; omega
    rcases h with h | h | h | h
    · have h1 : ¬ 28 ≤ op := omg; have h2 : ¬ 7 ≤ op := omg; go_enter Tryz.func211, Tryz.ntmps211; go_wp2; go_ret; exact ⟨rfl, rfl⟩
    · subst h; go_enter Tryz.func211, Tryz.ntmps211; go_wp2; go_ret; exact ⟨rfl, rfl⟩
    · have h1 : ¬ 28 ≤ op := omg; have h2 : 7 ≤ op := omg; have h3 : ¬ op ≤ 20 := omg; go_enter Tryz.func211, Tryz.ntmps211; go_wp2; go_ret; exact ⟨rfl, rfl⟩
    · have h1 : 28 ≤ op := omg; have h4 : ¬ op ≤ 32 := omg; have h2 : 7 ≤ op := omg; have h3 : ¬ op ≤ 20 := omg; go_enter Tryz.func211, Tryz.ntmps211; go_wp2; go_ret; exact ⟨rfl, rfl⟩
theorem has_any (op : Int) (w : World) : Calls Tryz.prog 142 #[.int .i64 op] w fun e w' => e = .returned (.tuple #[.int .i64 (hasN op), .bool (hasK op)]) ∧ w = w' := by
  unfold hasN hasK; rcases vc1 op with h | h | h | h | h
  · rw [cls_1 h]; rcases h with rfl | rfl | rfl | h
    case inr.inr.inr =>
      have b1 : (op == 1) = false := by rw [beq_eq_false_iff_ne]; omega
      have b2 : (op == 2) = false := by rw [beq_eq_false_iff_ne]; omega
      have b3 : (op == 21) = false := by rw [beq_eq_false_iff_ne]; omega
      have h1 := h.1; have h2 := h.2; go_enter Tryz.func142, Tryz.ntmps142; go_wp2; go_ret2; exact ⟨rfl, rfl⟩
    all_goals
      go_enter Tryz.func142, Tryz.ntmps142; go_wp2; go_ret2; exact ⟨rfl, rfl⟩
  · rw [cls_2 h]; rcases h with rfl | rfl | rfl
    all_goals
      go_enter Tryz.func142, Tryz.ntmps142; go_wp2; go_ret2; exact ⟨rfl, rfl⟩
  · rw [cls_3 h]; have b1 : (op == 1) = false := by rw [beq_eq_false_iff_ne]; omega
    have b2 : (op == 2) = false := by rw [beq_eq_false_iff_ne]; omega
    have b3 : (op == 21) = false := by rw [beq_eq_false_iff_ne]; omega
    have b4 : (op == 3) = false := by rw [beq_eq_false_iff_ne]; omega
    have b5 : (op == 5) = false := by rw [beq_eq_false_iff_ne]; omega
    have b6 : (op == 6) = false := by rw [beq_eq_false_iff_ne]; omega
    have h1 := h.1; have h2 := h.2; have h3 : ¬ 28 ≤ op := omg; go_enter Tryz.func142, Tryz.ntmps142; go_wp2; go_ret2; exact ⟨rfl, rfl⟩
  · rw [cls_4 h]; subst h; go_enter Tryz.func142, Tryz.ntmps142; go_wp2; go_ret2; exact ⟨rfl, rfl⟩
  · rw [cls_0 h]; have b1 : (op == 1) = false := by rw [beq_eq_false_iff_ne]; omega
    have b2 : (op == 2) = false := by rw [beq_eq_false_iff_ne]; omega
    have b3 : (op == 21) = false := by rw [beq_eq_false_iff_ne]; omega
    have b4 : (op == 3) = false := by rw [beq_eq_false_iff_ne]; omega
    have b5 : (op == 5) = false := by rw [beq_eq_false_iff_ne]; omega
    have b6 : (op == 6) = false := by rw [beq_eq_false_iff_ne]; omega
    have b7 : (op == 27) = false := by rw [beq_eq_false_iff_ne]; omega
    rcases h with h | h | h | h
    · have h1 : ¬ 28 ≤ op := omg; have h2 : ¬ 7 ≤ op := omg; go_enter Tryz.func142, Tryz.ntmps142; go_wp2; go_ret2; exact ⟨rfl, rfl⟩
    · subst h; go_enter Tryz.func142, Tryz.ntmps142; go_wp2; go_ret2; exact ⟨rfl, rfl⟩
    · have h1 : ¬ 28 ≤ op := omg; have h2 : 7 ≤ op := omg; have h3 : ¬ op ≤ 20 := omg; go_enter Tryz.func142, Tryz.ntmps142; go_wp2; go_ret2; exact ⟨rfl, rfl⟩
    · have h1 : 28 ≤ op := omg; have h4 : ¬ op ≤ 32 := omg; have h2 : 7 ≤ op := omg; have h3 : ¬ op ≤ 20 := omg; go_enter Tryz.func142, Tryz.ntmps142; go_wp2; go_ret2; exact ⟨rfl, rfl⟩
theorem value_any (t n : Int) (w : World) : Calls Tryz.prog 198 #[.int .i64 t, .int .i64 n] w fun e w' => e = .returned (.bool (qh7 t n)) ∧ w = w' := by
  unfold qh7
  by_cases h1 : t = 1
  · subst h1; go_enter Tryz.func198, Tryz.ntmps198; go_wp2; go_ret; exact ⟨rfl, rfl⟩
  · have b1 : (t == 1) = false := by rw [beq_eq_false_iff_ne]; exact h1
    rw [b1]
    by_cases h2 : t = 2
    · subst h2; clear h1
      by_cases h3 : n = 0
      · subst h3; go_enter Tryz.func198, Tryz.ntmps198; go_wp2; go_ret; exact ⟨rfl, rfl⟩
      · have b3 : (n == 0) = false := by rw [beq_eq_false_iff_ne]; exact h3
        rw [b3]; clear h3; go_enter Tryz.func198, Tryz.ntmps198; go_wp2; go_ret; exact ⟨rfl, rfl⟩
    · have b2 : (t == 2) = false := by rw [beq_eq_false_iff_ne]; exact h2
      rw [b2]; clear h1 h2; go_enter Tryz.func198, Tryz.ntmps198; go_wp2; go_ret; exact ⟨rfl, rfl⟩
theorem vb0 (t n : Int) (w : World) : Calls Tryz.prog 141 #[.int .i64 t, .int .i64 n] w fun e w' => e = .returned (.bool (qh7 t n)) ∧ w = w' := by
  unfold qh7
  by_cases h1 : t = 1
  · subst h1; go_enter Tryz.func141, Tryz.ntmps141; go_wp2; go_ret; exact ⟨rfl, rfl⟩
  · have b1 : (t == 1) = false := by rw [beq_eq_false_iff_ne]; exact h1
    rw [b1]
    by_cases h2 : t = 2
    · subst h2; clear h1
      by_cases h3 : n = 0
      · subst h3; go_enter Tryz.func141, Tryz.ntmps141; go_wp2; go_ret; exact ⟨rfl, rfl⟩
      · have b3 : (n == 0) = false := by rw [beq_eq_false_iff_ne]; exact h3
        rw [b3]; clear h3; go_enter Tryz.func141, Tryz.ntmps141; go_wp2; go_ret; exact ⟨rfl, rfl⟩
    · have b2 : (t == 2) = false := by rw [beq_eq_false_iff_ne]; exact h2
      rw [b2]; clear h1 h2; go_enter Tryz.func141, Tryz.ntmps141; go_wp2; go_ret; exact ⟨rfl, rfl⟩
end Go.Proofs.YtpmkpckldnnigaaGreat
