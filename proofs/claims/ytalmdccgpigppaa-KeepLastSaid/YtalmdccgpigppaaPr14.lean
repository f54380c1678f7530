/- Parts: ArgsProg, StateLawA, PlainState, MeterB, PlainA, Crc. -/
import Derived.Test.YtalmdccgpigppaaPr13
import Derived.Test.YtalmdccgpigppaaPr04
import Derived.Test.YtalmdccgpigppaaPr09
import Derived.Test.YtalmdccgpigppaaPr01
import Derived.Test.YtalmdccgpigppaaPr12
import Derived.Test.YtalmdccgpigppaaPr08
import Derived.Laws.LoneSync
import Derived.Deep.WholeRow
import Derived.WalkKit
import Derived.Test.YtalmdccgpigppaaPr00
namespace Go.Proofs.Ytalmdccgpigppaa
open Go.ChangeShapes Go.WideShapes Go.RowKit Go.Deep

def I64 (z : Int) : Prop := -9223372036854775808 ≤ z ∧ z ≤ 9223372036854775807
structure ProgAll (p : PV) : Prop where
  ins : ∀ z ∈ p.ins, I64 z
  outs : ∀ z ∈ p.outs, I64 z
  regs : I64 p.regs
  cells : ∀ x ∈ p.cells, I64 x.1 ∧ I64 x.2
  code : ∀ x ∈ p.code, I64 x.op ∧ I64 x.a ∧ I64 x.b ∧ I64 x.c ∧ I64 x.k
section
variable {H : Type} {enc : TypeId × Value → H} {w : World} {base b0 : Nat} {held : Bool} {r : Reach} {v : Value} {d : DataW H} {ps : List MemPlace}
end
end Go.Proofs.Ytalmdccgpigppaa
namespace Go.Proofs.Ytalmdccgpigppaa
open Go.ChangeShapes Go.WideShapes Go.RowKit Go.Deep

section
variable {H : Type} {enc : TypeId × Value → H} {w : World} {base b0 : Nat} {held : Bool} {r : Reach} {v : Value} {d : DataW H} {ps : List MemPlace}
structure SnapAll (s : SV) : Prop where
  tick : I64 s.tick
  hash : I64 s.hash
  cells : ∀ z ∈ s.cells, I64 z
end

end Go.Proofs.Ytalmdccgpigppaa
namespace Go.Proofs.Ytalmdccgpigppaa
open Go.RowKit

theorem numAt_nBs {n : Int} (hn : -9223372036854775808 ≤ n ∧ n ≤ 9223372036854775807) (a b : List UInt8) : numAt (a ++ (nBs n ++ b)) a.length = n := by
  unfold numAt
  rw [List.drop_left, List.take_left' (nBs_len n)]
  unfold nBs
  rw [getL_putL _ (un_lt n), sg_un hn.1 hn.2]
theorem flat_len8 (l : List Int) : (l.flatMap nBs).length = 8 * l.length := by
  induction l with
  | nil => rfl
  | cons a l ih => rw [List.flatMap_cons, List.length_append, ih, nBs_len, List.length_cons]; omega
theorem stBs_len (s : SV) : (stBs s).length = 16 + 8 * s.cells.length := by
  unfold stBs; rw [List.length_append, List.length_append, nBs_len, nBs_len, flat_len8]
theorem numAt_flat (l : List Int) (hl : ∀ z ∈ l, -9223372036854775808 ≤ z ∧ z ≤ 9223372036854775807) (a : List UInt8) (k : Nat) (hk : k < l.length) : numAt (a ++ l.flatMap nBs) (a.length + 8 * k) = l[k] := by
  induction l generalizing a k with
  | nil => simp at hk
  | cons z l ih =>
    rw [List.flatMap_cons]
    cases k with
    | zero => exact numAt_nBs (hl z (by simp)) a _
    | succ k =>
      have := ih (fun y hy => hl y (by simp [hy])) (a ++ nBs z) k (by simpa using hk)
      rw [List.length_append, nBs_len, List.append_assoc] at this
      rw [show a.length + 8 * (k + 1) = a.length + 8 + 8 * k by omega, this]; rfl
theorem snapOf_stBs {s : SV} (ht : I64 s.tick) (hh : I64 s.hash) (hc : ∀ z ∈ s.cells, I64 z) : snapOf s.cells.length (stBs s) = s := by
  have e1 : numAt (stBs s) 0 = s.tick := by
    have := numAt_nBs (n := s.tick) ht [] (nBs s.hash ++ s.cells.flatMap nBs)
    rw [List.nil_append, ← List.append_assoc] at this; exact this
  have e2 : numAt (stBs s) 8 = s.hash := by
    have := numAt_nBs (n := s.hash) hh (nBs s.tick) (s.cells.flatMap nBs)
    rw [← List.append_assoc, nBs_len] at this; exact this
  have e3 : cellsK (stBs s) s.cells.length = s.cells := by
    apply List.ext_getElem
    · simp [cellsK]
    intro k h1 h2
    have := numAt_flat s.cells hc (nBs s.tick ++ nBs s.hash) k h2
    rw [List.length_append, nBs_len, nBs_len] at this
    have e : (cellsK (stBs s) s.cells.length)[k] = numAt (stBs s) (16 + 8 * k) := by
      simp only [cellsK, List.getElem_map, List.getElem_range]
    rw [e]
    exact this
  obtain ⟨t, h, c⟩ := s
  unfold snapOf
  simp only at e1 e2 e3
  rw [e1, e2, e3]
end Go.Proofs.Ytalmdccgpigppaa
namespace Go.Proofs.Ytalmdccgpigppaa
open Go.RowKit

section
variable {P : Program} {f : FuncId} {fn : Func}
end

theorem aadd_any (g k : Nat) (x y : Int) (w : World) (hc : w.cell? ⟨g, k, none⟩ = some (.int .i64 x)) (hz : w.frozen? ⟨g, k, none⟩ = false) :
    Calls Try.prog 148 #[.pointer (some ⟨g, k, none⟩), .int .i64 y] w fun e w' => e = .returned (.int .i64 (wrap64 (x + y))) ∧ w.setCell ⟨g, k, none⟩ (.int .i64 (wrap64 (x + y))) = w' := by
  have hl := run_call_add (P := Try.prog) Try.func150 (by kernel_rfl) (by kernel_rfl) (by kernel_rfl) .i64 (by kernel_rfl) (y := y) (s := wrap64 (x + y)) hc hz (by simp [go_sem, wrap64, IntKind.wrap_i64])
  generalize wrap64 (x + y) = z at *
  go_enter Try.func148, Try.ntmps148
  go_wp2
  go_ret
  exact ⟨rfl, rfl⟩
theorem has_yes (g : Nat) (kind : Int) (w : World) (h1 : 1 ≤ kind) (h2 : kind ≤ 6) : Calls Try.prog 147 #[.pointer (some ⟨g, 0, none⟩), .int .i64 kind] w fun e w' => e = .returned (.bool true) ∧ w = w' := by
  go_enter Try.func147, Try.ntmps147
  go_wp2
  go_ret
  exact ⟨rfl, rfl⟩
theorem has_no (g : Nat) (kind : Int) (w : World) (h : ¬ (1 ≤ kind ∧ kind ≤ 6)) : Calls Try.prog 147 #[.pointer (some ⟨g, 0, none⟩), .int .i64 kind] w fun e w' => e = .returned (.bool false) ∧ w = w' := by
  have h' : kind < 1 ∨ (1 ≤ kind ∧ 6 < kind) := by omega
  clear h
  rcases h' with h | ⟨h1, h2⟩
  all_goals
    go_enter Try.func147, Try.ntmps147
    go_wp2
    go_ret
    exact ⟨ret_bool (by first | (simp; done) | (simp; omega)), rfl⟩
theorem has_nil (kind : Int) (w : World) : Calls Try.prog 147 #[.pointer none, .int .i64 kind] w fun e w' => e = .returned (.bool false) ∧ w = w' := by
  go_enter Try.func147, Try.ntmps147
  go_wp2
  go_ret
  exact ⟨rfl, rfl⟩

def MeterAt (w : World) (g : Nat) (l : List Int) : Prop := l.length = 6 ∧ Blk w g 217 (l.map iv)
def mPut (l : List Int) (kind x : Int) : List Int := l.set (kind - 1).toNat x
def mGet (l : List Int) (kind : Int) : Int := l.getD (kind - 1).toNat 0
theorem mPut_len (l : List Int) (kind x : Int) : (mPut l kind x).length = l.length := by simp [mPut]
theorem MeterAt.cell {w : World} {g : Nat} {l : List Int} (h : MeterAt w g l) (k : Nat) (hk : k < 6) : w.cell? ⟨g, k, none⟩ = some (.int .i64 (mGet l ((k : Int) + 1))) := by
  rw [h.2.cell]
  have : k < l.length := by rw [h.1]; exact hk
  unfold mGet iv
  rw [show ((k : Int) + 1 - 1).toNat = k from by omega]
  simp [List.getD_eq_getElem?_getD, this]
theorem MeterAt.put {w : World} {g : Nat} {l : List Int} (h : MeterAt w g l) (k : Nat) (x : Int) : MeterAt (w.setCell ⟨g, k, none⟩ (.int .i64 x)) g (mPut l ((k : Int) + 1) x) := by
  refine ⟨by rw [mPut_len]; exact h.1, ?_⟩
  unfold mPut
  rw [show ((k : Int) + 1 - 1).toNat = k from by omega, List.map_set]
  exact h.2.set_ k _
theorem newmeter_any (w : World) : Calls Try.prog 108 #[] w fun e w' => e = .returned (.pointer (some ⟨w.heap.size, 0, none⟩)) ∧ MeterAt w' w.heap.size [0, 0, 0, 0, 0, 0] ∧ Below w.heap.size w w' ∧ w'.heap.size = w.heap.size + 1 := by
  have hbu : ∀ w : World, (Instr.build 217 #[]).run Try.prog w = .ok (.agg #[.int .i64 0, .int .i64 0, .int .i64 0, .int .i64 0, .int .i64 0, .int .i64 0]) w := fun w => run_build w _ _ _ (by kernel_rfl)
  go_enter Try.func108, Try.ntmps108
  go_wp2
  go_ret
  exact ⟨rfl, ⟨rfl, Blk.top _ rfl rfl⟩, (by (repeat' (first | (with_reducible exact Below.refl _ _) | (with_reducible assumption) | (with_reducible refine Below.drew ?_) | (with_reducible refine below_drewN ?_ _) | (with_reducible refine Below.alloc ?_ ?_ _) | (with_reducible refine Below.setCell ?_ ?_ _) | omega | (simp; done) | (simp; omega)))), by simp⟩

theorem add_yes (g : Nat) (l : List Int) (kind n : Int) (w : World) (hm : MeterAt w g l) (h1 : 1 ≤ kind) (h2 : kind ≤ 6) :
    Calls Try.prog 133 #[.pointer (some ⟨g, 0, none⟩), .int .i64 kind, .int .i64 n] w fun e w' => e = .returned (.bool true) ∧ MeterAt w' g (mPut l kind (wrap64 (mGet l kind + n))) ∧ w.grownBy w' (some g) ∧ w'.heap.size = w.heap.size := by
  obtain ⟨k, rfl⟩ : ∃ k : Nat, kind = (k : Int) + 1 := ⟨(kind - 1).toNat, by omega⟩
  have hk : k < 6 := by omega
  have hc := hm.cell k hk
  have hz := hm.2.frozen k
  have hp := fun x => Lib.hid (hm.put k x)
  generalize mGet l ((k : Int) + 1) = x at *
  have hput : ∀ x, Hid (MeterAt (w.setCell ⟨g, k, none⟩ (.int .i64 x)) g (mPut l ((k : Int) + 1) x)) := hp
  clear hp
  go_enter Try.func133, Try.ntmps133
  go_wp2_with (first
    | (go_at_call 147; (with_reducible refine (has_yes _ _ _ h1 h2).mono ?_); rintro e w1 ⟨rfl, rfl⟩)
    | (go_at_call 148; (with_reducible refine (aadd_any _ _ _ _ _ hc hz).mono ?_); rintro e w1 ⟨rfl, rfl⟩))
  go_ret
  exact ⟨rfl, (hput _).out, grown_setCell _, by simp [World.setCell]⟩
/-- A kind that there is not, or a meter that is none. -/
def NoKind (A : Option Addr) (kind : Int) : Prop := (∃ g, A = some ⟨g, 0, none⟩ ∧ ¬ (1 ≤ kind ∧ kind ≤ 6)) ∨ A = none
theorem has_not (A : Option Addr) (kind : Int) (w : World) (h : NoKind A kind) : Calls Try.prog 147 #[.pointer A, .int .i64 kind] w fun e w' => e = .returned (.bool false) ∧ w = w' := by
  rcases h with ⟨g, rfl, h⟩ | rfl
  · exact has_no g kind w h
  · exact has_nil kind w
theorem add_no (A : Option Addr) (kind n : Int) (w : World) (h : NoKind A kind) : Calls Try.prog 133 #[.pointer A, .int .i64 kind, .int .i64 n] w fun e w' => e = .returned (.bool false) ∧ w = w' := by
  go_enter Try.func133, Try.ntmps133
  go_wp2_with (go_at_call 147; (with_reducible refine (has_not _ _ _ h).mono ?_); rintro e w1 ⟨rfl, rfl⟩)
  go_ret
  exact ⟨rfl, rfl⟩
end Go.Proofs.Ytalmdccgpigppaa
namespace Go.Proofs.Ytalmdccgpigppaa
open Go.RowKit
theorem MeterAt.alloc {w : World} {g : Nat} {l : List Int} (h : MeterAt w g l) (o : Obj) : MeterAt (w.alloc o) g l := ⟨h.1, h.2.alloc o⟩
theorem MeterAt.below {w w' : World} {g B : Nat} {l : List Int} (h : MeterAt w g l) (hb : Below B w w') (hg : g < B) : MeterAt w' g l := ⟨h.1, h.2.below hb hg⟩
theorem MeterAt.grown {w w' : World} {g : Nat} {row : Option Nat} {l : List Int} (h : MeterAt w g l) (hb : w.grownBy w' row) (hg : row ≠ some g) : MeterAt w' g l := ⟨h.1, h.2.grown hb hg⟩
theorem MeterAt.drewN {w : World} {g : Nat} {l : List Int} (h : MeterAt w g l) (n : Nat) : MeterAt (w.drewN n) g l := ⟨h.1, h.2.drewN n⟩
/-- Counts whatever the kind. -/
def inK (kind : Int) : Bool := decide (1 ≤ kind ∧ kind ≤ 6)
def mAdd (l : List Int) (kind n : Int) : List Int := if inK kind then mPut l kind (wrap64 (mGet l kind + n)) else l
theorem inK_yes {kind : Int} (h : inK kind = true) : 1 ≤ kind ∧ kind ≤ 6 := by simpa [inK] using h
theorem inK_no {kind : Int} {g : Nat} (h : inK kind = false) : NoKind (some ⟨g, 0, none⟩) kind := .inl ⟨g, rfl, by simpa [inK] using h⟩
theorem add_any (g : Nat) (l : List Int) (kind n : Int) (w : World) (hm : MeterAt w g l) :
    Calls Try.prog 133 #[.pointer (some ⟨g, 0, none⟩), .int .i64 kind, .int .i64 n] w fun e w' => e = .returned (.bool (inK kind)) ∧ MeterAt w' g (mAdd l kind n) ∧ w.grownBy w' (some g) ∧ w'.heap.size = w.heap.size := by
  cases h : inK kind with
  | true => unfold mAdd; rw [if_pos h]; exact add_yes g l kind n w hm (inK_yes h).1 (inK_yes h).2
  | false => unfold mAdd; rw [if_neg (by simp [h])]; exact (add_no _ kind n w (inK_no h)).mono fun e w' ⟨he, hw⟩ => by subst hw; exact ⟨he, hm, World.grownBy.refl _ _, rfl⟩
end Go.Proofs.Ytalmdccgpigppaa
namespace Go.Proofs.Ytalmdccgpigppaa
open Go.RowKit

def crcBit (x : Nat) : Nat := if x % 2 = 1 then (x / 2) ^^^ 3988292384 else x / 2
def crcBits : Nat → Nat → Nat
  | 0, x => x
  | k + 1, x => crcBits k (crcBit x)
def crcStep (c b : Nat) : Nat := crcBits 8 (c ^^^ b)
def crcFold (c : Nat) (l : List UInt8) : Nat := l.foldl (fun c b => crcStep c b.toNat) c
def crcMore (s : Nat) (l : List UInt8) : Nat := 4294967295 - crcFold (4294967295 - s) l
def crcSum (ls : List (List UInt8)) : Nat := ls.foldl crcMore 0

theorem u32_lt_xor {a b : Nat} (ha : a < 4294967296) (hb : b < 4294967296) : a ^^^ b < 4294967296 := Nat.xor_lt_two_pow (n := 32) ha hb
theorem crcBit_lt {x : Nat} (h : x < 4294967296) : crcBit x < 4294967296 := by
  unfold crcBit; split
  · exact u32_lt_xor (by omega) (by omega)
  · omega
theorem crcBits_lt (k : Nat) : ∀ {x : Nat}, x < 4294967296 → crcBits k x < 4294967296 := by
  induction k with
  | zero => intro x h; exact h
  | succ k ih => intro x h; exact ih (crcBit_lt h)
theorem crcStep_lt {c b : Nat} (hc : c < 4294967296) (hb : b < 256) : crcStep c b < 4294967296 := crcBits_lt 8 (u32_lt_xor hc (by omega))
theorem crcMore_lt (s : Nat) (l : List UInt8) : crcMore s l < 4294967296 := by unfold crcMore; omega
theorem crcFold_snoc (c : Nat) (a : List UInt8) (x : UInt8) : crcFold c (a ++ [x]) = crcStep (crcFold c a) x.toNat := by simp [crcFold]

theorem crcSum_take (ls : List (List UInt8)) (k : Nat) (h : k < ls.length) : crcSum (ls.take (k + 1)) = crcMore (crcSum (ls.take k)) (ls.getD k []) := by
  unfold crcSum
  rw [List.take_succ_eq_append_getElem h, List.foldl_append, List.getD_eq_getElem?_getD, List.getElem?_eq_getElem h]; rfl
theorem crcSum_lt (ls : List (List UInt8)) : crcSum ls < 4294967296 := by
  rcases List.eq_nil_or_concat ls with rfl | ⟨l, x, rfl⟩
  · decide
  · have : crcSum (l ++ [x]) = crcMore (crcSum l) x := by simp [crcSum]
    simp only [List.concat_eq_append, this]; exact crcMore_lt _ _
theorem IntKind.wrap_u32' (n : Int) : IntKind.u32.wrap n = n % 4294967296 := by simp [IntKind.wrap, IntKind.bits, IntKind.signed]
theorem ofInt_u32 (a : Nat) (ha : a < 4294967296) : (BitVec.ofInt 32 (a : Int)).toNat = a := by
  rw [BitVec.ofInt_natCast, BitVec.toNat_ofNat]; exact Nat.mod_eq_of_lt (by omega)
theorem u32_xor (a b : Nat) (ha : a < 4294967296) (hb : b < 4294967296) : bits .xor .u32 (a : Int) (b : Int) = ((a ^^^ b : Nat) : Int) := by
  have hx := u32_lt_xor ha hb
  show IntKind.u32.wrap ((BitVec.ofInt 32 (a : Int) ^^^ BitVec.ofInt 32 (b : Int)).toNat : Int) = _
  rw [BitVec.toNat_xor, ofInt_u32 a ha, ofInt_u32 b hb, IntKind.wrap_u32']
  omega
theorem u32_and_one (a : Nat) (ha : a < 4294967296) : bits .and .u32 (a : Int) 1 = ((a % 2 : Nat) : Int) := by
  show IntKind.u32.wrap ((BitVec.ofInt 32 (a : Int) &&& BitVec.ofInt 32 ((1 : Nat) : Int)).toNat : Int) = _
  rw [BitVec.toNat_and, ofInt_u32 a ha, ofInt_u32 1 (by omega), IntKind.wrap_u32', Nat.and_one_is_mod]
  omega
theorem u32_turn (x : Nat) (hx : x < 4294967296) : bits .xor .u32 ((x : Int) / 2) 3988292384 = ((x / 2 ^^^ 3988292384 : Nat) : Int) := by
  have := u32_xor (x / 2) 3988292384 (by omega) (by omega)
  rw [← this]; rfl
theorem u32_not (s : Nat) (hs : s < 4294967296) : bits .xor .u32 IntKind.u32.max (s : Int) = ((4294967295 - s : Nat) : Int) := by
  show IntKind.u32.wrap ((BitVec.ofInt 32 IntKind.u32.max ^^^ BitVec.ofInt 32 (s : Int)).toNat : Int) = _
  have h1 : BitVec.ofInt 32 IntKind.u32.max = BitVec.allOnes 32 := by decide
  rw [h1, BitVec.allOnes_xor, BitVec.toNat_not, ofInt_u32 s hs, IntKind.wrap_u32']
  omega
end Go.Proofs.Ytalmdccgpigppaa
namespace Go.Proofs.Ytalmdccgpigppaa
open Go.RowKit

theorem step_any (c b : Nat) (w : World) (hc : c < 4294967296) (hb : b < 256) :
    Calls Try.prog 113 #[.int .u32 c, .int .u8 b] w fun e w' => e = .returned (.int .u32 (crcStep c b)) ∧ w = w' := by
  have hx := u32_xor c b hc (by omega)
  have hlt : c ^^^ b < 4294967296 := u32_lt_xor hc (by omega)
  have hd : crcStep c b = crcBits 8 (c ^^^ b) := rfl
  generalize hz : crcStep c b = z at *
  generalize hy : c ^^^ b = y at *
  have Hd := Lib.hid hd; clear hd hz hy
  go_enter Try.func113, Try.ntmps113
  go_wp2
  go_loop [0, 9] (fun c i => ∃ k : Nat, ∃ x : Nat, k ≤ 8 ∧ x < 4294967296 ∧ Hid (z = crcBits (8 - k) x) ∧ i = .int .i64 k ∧ c = .int .u32 x) (fun _ i => 8 - (intOf i).toNat)
  case atStart => exact ⟨0, y, Nat.zero_le _, hlt, Hd, rfl, rfl⟩
  case round =>
    obtain ⟨k, x, hk, hx, HX, rfl, rfl⟩ := hrel
    have ha := u32_and_one x hx
    have ht := u32_turn x hx
    have hb := @crcBit_lt x hx
    by_cases hlt : k < 8
    · have HB : Hid (crcBits (8 - k) x = crcBits (8 - (k + 1)) (crcBit x)) := by rw [show 8 - k = (8 - (k + 1)) + 1 from by omega]; rfl
      by_cases h1 : x % 2 = 1
      · have HC : Hid (crcBit x = x / 2 ^^^ 3988292384) := if_pos h1
        have h2 : (((x % 2 : Nat) : Int) == 1) = true := by rw [beq_iff_eq]; omega
        clear h1
        go_wp2
        go_round
        case rel => exact ⟨k + 1, _, by omega, hb, HX.out.trans HB.out, by go_num, by rw [HC.out]⟩
        case measure => simp [intOf]; omega
      · have HC : Hid (crcBit x = x / 2) := if_neg h1
        have h2 : (((x % 2 : Nat) : Int) == 1) = false := by rw [beq_eq_false_iff_ne]; omega
        clear h1
        go_wp2
        go_round
        case rel => exact ⟨k + 1, _, by omega, hb, HX.out.trans HB.out, by go_num, by rw [HC.out]; rfl⟩
        case measure => simp [intOf]; omega
    · go_wp2
      go_ret
      refine ⟨?_, rfl⟩
      have e : 8 - k = 0 := by omega
      rw [HX.out, e]; rfl
theorem crcFold_take (c : Nat) (l : List UInt8) (k : Nat) (h : k < l.length) : crcFold c (l.take (k + 1)) = crcStep (crcFold c (l.take k)) (byteAt l k) := by
  rw [take_succ_byte l k h, crcFold_snoc]; rfl

theorem more_any (s : Nat) (a : Option Addr) (n c : Nat) (l : List UInt8) (w : World) (hs : s < 4294967296) (hl : RB w a n l) (hn : n ≤ maxLen) :
    Calls Try.prog 85 #[.int .u32 s, .slice a n c] w fun e w' => e = .returned (.int .u32 (crcMore s l)) ∧ w = w' := by
  unfold maxLen at hn
  have hd : crcMore s l = 4294967295 - crcFold (4294967295 - s) l := rfl
  have hlen : l.length = n := hl.1
  generalize hz : crcMore s l = z at *
  have HL := Lib.hid hlen; clear hlen
  have Hd := Lib.hid hd; clear hd hz
  have hsg : IntKind.u32.signed = false := rfl
  have hnot := u32_not s hs
  go_enter Try.func85, Try.ntmps85
  go_wp2
  go_loop [5, 12] (fun c i => ∃ k : Nat, ∃ x : Nat, k ≤ n ∧ x < 4294967296 ∧ Hid (x = crcFold (4294967295 - s) (l.take k)) ∧ i = .int .i64 k ∧ c = .int .u32 x) (fun _ i => n - (intOf i).toNat)
  case atStart => exact ⟨0, 4294967295 - s, Nat.zero_le _, by omega, rfl, rfl, rfl⟩
  case round =>
    obtain ⟨k, x, hk, hx, HX, rfl, rfl⟩ := hrel
    clear hnot
    by_cases hlt : k < n
    · have HF : Hid (crcFold (4294967295 - s) (l.take (k + 1)) = crcStep x (byteAt l k)) := by rw [HX.out]; exact crcFold_take _ _ _ (by rw [HL.out]; exact hlt)
      obtain ⟨b, o, rfl, hb, hc⟩ := hl.at_ hlt
      have h8 := byteAt_lt l k
      have hy := crcStep_lt hx h8
      go_wp2_with (go_at_call 113; (with_reducible refine (step_any _ _ _ hx h8).mono ?_); rintro e w' ⟨rfl, rfl⟩)
      go_round
      case rel => exact ⟨k + 1, _, by omega, hy, HF.out.symm, by go_num, rfl⟩
      case measure => simp [intOf]; omega
    · have hnot := u32_not x hx
      go_wp2
      go_ret
      exact ⟨ret_nat (by rw [Hd.out, HX.out, List.take_of_length_le (by rw [HL.out]; omega)]), rfl⟩

/-- A row of slices, each of which reads as a list of bytes. -/
def RBs (w : World) (a : Option Addr) (n : Nat) (ls : List (List UInt8)) : Prop :=
  ls.length = n ∧ ∃ V : Nat → Option Addr × Nat × Nat, Row w a ls.length (fun i => .slice (V i).1 (V i).2.1 (V i).2.2) ∧ ∀ i, i < ls.length → RB w (V i).1 (V i).2.1 (ls.getD i []) ∧ (V i).2.1 ≤ maxLen

theorem sum_any (a : Option Addr) (n c : Nat) (ls : List (List UInt8)) (w : World) (hl : RBs w a n ls) (hm : n ≤ maxLen) :
    Calls Try.prog 54 #[.slice a n c] w fun e w' => e = .returned (.int .u32 (crcSum ls)) ∧ w = w' := by
  unfold maxLen at hm
  obtain ⟨hn, V, hrow, hV⟩ := hl
  generalize hz : crcSum ls = z at *
  have Hn := Lib.hid hn
  rw [hn] at hrow
  clear hn
  have Hz := Lib.hid hz; clear hz
  go_enter Try.func54, Try.ntmps54
  go_wp2
  go_loop [3, 8] (fun c i => ∃ k : Nat, ∃ x : Nat, k ≤ n ∧ x < 4294967296 ∧ Hid (x = crcSum (ls.take k)) ∧ i = .int .i64 k ∧ c = .int .u32 x) (fun _ i => n - (intOf i).toNat)
  case atStart => exact ⟨0, 0, Nat.zero_le _, by omega, rfl, rfl, rfl⟩
  case round =>
    obtain ⟨k, x, hk, hx, HX, rfl, rfl⟩ := hrel
    by_cases hlt : k < n
    · have HF : Hid (crcSum (ls.take (k + 1)) = crcMore x (ls.getD k [])) := by rw [HX.out]; exact crcSum_take _ _ (by rw [Hn.out]; exact hlt)
      obtain ⟨b, o, rfl, hb, hc⟩ := hrow.at_ hlt
      obtain ⟨hr, hm2⟩ := hV k (by rw [Hn.out]; exact hlt)
      have hy := crcMore_lt x (ls.getD k [])
      generalize ls.getD k [] = lk at *
      go_wp2_with (go_at_call 85; (with_reducible refine (more_any _ _ _ _ lk _ hx hr hm2).mono ?_); rintro e w' ⟨rfl, rfl⟩)
      go_round
      case rel => exact ⟨k + 1, _, by omega, hy, HF.out.symm, by go_num, rfl⟩
      case measure => simp [intOf]; omega
    · go_wp2
      go_ret
      exact ⟨ret_nat (by rw [HX.out, ← Hz.out, List.take_of_length_le (by rw [Hn.out]; omega)]), rfl⟩
theorem RBs.one {w : World} {g : Nat} {t : TypeId} {fr : Nat × Nat} {A : Option Addr} {n c : Nat} {l : List UInt8} (hg : w.heap[g]? = some (.cells #[.slice A n c] t fr)) (h : RB w A n l) (hn : n ≤ maxLen) :
    RBs w (some ⟨g, 0, none⟩) 1 [l] :=
  ⟨rfl, fun _ => (A, n, c), Row.of_block hg 0 (fun i hi => by
    have : i = 0 := by simp at hi; exact hi
    subst this; rfl), fun i hi => by
    have : i = 0 := by simp at hi; exact hi
    subst this; exact ⟨h, hn⟩⟩
theorem RBs.two {w : World} {g : Nat} {t : TypeId} {fr : Nat × Nat} {A B : Option Addr} {n c m d : Nat} {l k : List UInt8} (hg : w.heap[g]? = some (.cells #[.slice A n c, .slice B m d] t fr)) (h : RB w A n l) (hn : n ≤ maxLen) (h' : RB w B m k) (hm : m ≤ maxLen) :
    RBs w (some ⟨g, 0, none⟩) 2 [l, k] :=
  ⟨rfl, fun i => if i = 0 then (A, n, c) else (B, m, d), Row.of_block hg 0 (fun i hi => by
    rcases (by simp at hi; omega : i = 0 ∨ i = 1) with rfl | rfl <;> rfl), fun i hi => by
    rcases (by simp at hi; omega : i = 0 ∨ i = 1) with rfl | rfl
    · exact ⟨h, hn⟩
    · exact ⟨h', hm⟩⟩
end Go.Proofs.Ytalmdccgpigppaa
