/- Parts: ArgsProg, StateLawA, PlainState, MeterB, PlainA, Crc, PlainSeal, SealA. -/
import Derived.Test.YtpmkpckldnnigaaGreatPr02
import Derived.Test.YtpmkpckldnnigaaGreatPr10
import Derived.Test.YtpmkpckldnnigaaGreatPr03
import Derived.Test.YtpmkpckldnnigaaGreatPr08
import Derived.Test.YtpmkpckldnnigaaGreatPr01
import Derived.Test.YtpmkpckldnnigaaGreatPr09
import Derived.Test.YtpmkpckldnnigaaGreatPr07
import Derived.Laws.LoneSync
import Derived.Deep.WholeRow
import Derived.WalkKit
import Derived.Test.YtpmkpckldnnigaaGreatPr00
import Derived.Laws.CopyOwn
import Derived.Deep.RegionHeld3
set_option linter.unusedVariables false
set_option linter.unusedSimpArgs false
set_option maxRecDepth 100000
set_option maxHeartbeats 40000000
namespace Go.Proofs.YtpmkpckldnnigaaGreat
open Go.ChangeShapes Go.WideShapes Go.RowKit Go.Deep
theorem vd6 {α : Type} {size : Nat} {enc : α → List Value} {w : World} {A : Option Addr} {n : Nat} {zs : List Int} (henc : ∀ x, (enc x).length = size) (h0 : 0 < size) (mk : (Nat → Int) → α)
    (hmk : ∀ g j, j < size → (enc (mk g))[j]? = some (.int .i64 (g j))) (hrow : Row w A (n * size) (fun i => .int .i64 (zs.getD i 0))) :
    RdS size enc w A n ((List.range n).map fun k => mk (fun j => zs.getD (k * size + j) 0)) := by
  refine ⟨by simp, by rw [vk4 henc]; simp, hrow.congr fun i hi => ?_⟩; have hk : i / size < n := Nat.div_lt_of_lt_mul (by rw [Nat.mul_comm]; exact hi); have hj : i % size < size := Nat.mod_lt _ h0; have e : i / size * size + i % size = i := by rw [Nat.mul_comm]; exact Nat.div_add_mod i size
  have h := flat_at henc hj ((List.range n).map fun k => mk (fun j => zs.getD (k * size + j) 0)) (i / size) (mk (fun j => zs.getD (i / size * size + j) 0)) (by simp [hk]); rw [e, hmk _ _ hj, e] at h; generalize List.flatMap enc _ = F at *
  show _ = F.getD i undef
  generalize zs.getD i 0 = z at *; rw [List.getD_eq_getElem?_getD, h]
  rfl
def I64 (z : Int) : Prop := -9223372036854775808 ≤ z ∧ z ≤ 9223372036854775807
structure vk8 (p : PV) : Prop where
  ins : ∀ z ∈ p.ins, I64 z
  outs : ∀ z ∈ p.outs, I64 z
  regs : I64 p.regs
  cells : ∀ x ∈ p.cells, I64 x.1 ∧ I64 x.2
  code : ∀ x ∈ p.code, I64 x.op ∧ I64 x.a ∧ I64 x.b ∧ I64 x.c ∧ I64 x.k
theorem qs6 {zs : List Int} (h : ∀ z ∈ zs, I64 z) (i : Nat) : I64 (zs.getD i 0) := by
  rw [List.getD_eq_getElem?_getD]; rcases Nat.lt_or_ge i zs.length with h1 | h1
  · rw [List.getElem?_eq_getElem h1]; exact h _ (List.getElem_mem h1)
  · rw [List.getElem?_eq_none h1]; exact ⟨by decide, by decide⟩
section
variable {H : Type} {enc : TypeId × Value → H} {w : World} {base b0 : Nat} {held : Bool} {r : Reach} {v : Value} {d : DataW H} {ps : List MemPlace}
theorem args_prog (hval : Value.okWide Tryz.prog w r b0 27 v) (hd : DataW.Trod enc Tryz.prog w base (fun _ => true) held 27 v d ps) :
    ∃ x p, v = .agg #[.slice x.A1 x.n1 x.c1, .slice x.A2 x.n2 x.c2, .int .i64 p.regs, .slice x.A3 x.n3 x.c3, .slice x.A4 x.n4 x.c4] ∧ qc8 w x p ∧ vk8 p := by
  obtain ⟨vs, n, rfl, hlen, hf⟩ := open_agg Tryz.underlying27 (by kernel_rfl) (by kernel_rfl) hval hd
  match vs, hlen with
  | [v0, v1, v2, v3, v4], _ =>
    obtain ⟨u0, y0, e0, t0⟩ := hf 0 _ rfl; obtain ⟨u1, y1, e1, t1⟩ := hf 1 _ rfl; obtain ⟨u2, y2, e2, t2⟩ := hf 2 _ rfl; obtain ⟨u3, y3, e3, t3⟩ := hf 3 _ rfl; obtain ⟨u4, y4, e4, t4⟩ := hf 4 _ rfl; injection e0 with e0; injection e1 with e1; injection e2 with e2; injection e3 with e3; injection e4 with e4; subst e0 e1 e2 e3 e4; obtain ⟨A1, n1, c1, l1, rfl, r1, k1, m1, w1⟩ := vc8 Tryz.underlying23 Tryz.underlying3 (by kernel_rfl) t0; obtain ⟨A2, n2, c2, l2, rfl, r2, k2, m2, w2⟩ := vc8 Tryz.underlying23 Tryz.underlying3 (by kernel_rfl) t1; obtain ⟨z, hz, _, hw⟩ := DataW.trod_int Tryz.underlying3 t2; have hz : v2 = .int .i64 z := by simpa using hz
    subst hz; obtain ⟨A3, n3, c3, l3, rfl, _, r3, k3, m3, w3⟩ := va6 (k := 2) Tryz.underlying24 Tryz.underlying196 (by kernel_rfl) (by kernel_rfl) rfl (fun j f h => by
      match j, h with | 0, h => simp at h; subst h; exact Tryz.underlying3 | 1, h => simp at h; subst h; exact Tryz.underlying3 | k + 2, h => simp at h) t3
    obtain ⟨A4, n4, c4, l4, rfl, _, r4, k4, m4, w4⟩ := va6 (k := 5) Tryz.underlying25 Tryz.underlying133 (by kernel_rfl) (by kernel_rfl) rfl (fun j f h => by
      match j, h with | 0, h => simp at h; subst h; exact Tryz.underlying3 | 1, h => simp at h; subst h; exact Tryz.underlying3 | 2, h => simp at h; subst h; exact Tryz.underlying3 | 3, h => simp at h; subst h; exact Tryz.underlying3 | 4, h => simp at h; subst h; exact Tryz.underlying3 | k + 5, h => simp at h) t4
    have q3 := vd6 qj2 omg (fun g => (g 0, g 1)) (fun g j hj => by
      match j, hj with | 0, _ => rfl | 1, _ => rfl) r3
    have q4 := vd6 qk8 omg (fun g => (⟨g 0, g 1, g 2, g 3, g 4⟩ : Ins)) (fun g j hj => by
      match j, hj with | 0, _ => rfl | 1, _ => rfl | 2, _ => rfl | 3, _ => rfl | 4, _ => rfl) r4
    refine ⟨⟨A1, n1, c1, A2, n2, c2, A3, n3, c3, A4, n4, c4⟩, ⟨l1, l2, z, _, _⟩, rfl, ⟨r1, r2, q3, q4, ⟨k1, m1⟩, ⟨k2, m2⟩, ⟨k3, m3⟩, ⟨k4, m4⟩⟩, w1, w2, bounds_i64 hw, fun x hx => ?_, fun x hx => ?_⟩
    · obtain ⟨k, _, rfl⟩ := List.mem_map.1 hx; exact ⟨qs6 w3 _, qs6 w3 _⟩
    · obtain ⟨k, _, rfl⟩ := List.mem_map.1 hx; exact ⟨qs6 w4 _, qs6 w4 _, qs6 w4 _, qs6 w4 _, qs6 w4 _⟩
end
open Go.ChangeShapes Go.WideShapes Go.RowKit Go.Deep
section
variable {H : Type} {enc : TypeId × Value → H} {w : World} {base b0 : Nat} {held : Bool} {r : Reach} {v : Value} {d : DataW H} {ps : List MemPlace}
structure SnapAll (s : SV) : Prop where
  tick : I64 s.tick
  hash : I64 s.hash
  cells : ∀ z ∈ s.cells, I64 z
end
open Go.RowKit
section
variable {P : Program} {f : FuncId} {fn : Func}
end
theorem aadd_any (g k : Nat) (x y : Int) (w : World) (hc : w.cell? ⟨g, k, none⟩ = some (.int .i64 x)) (hz : w.frozen? ⟨g, k, none⟩ = false) :
    Calls Tryz.prog 276 #[.pointer (some ⟨g, k, none⟩), .int .i64 y] w fun e w' => e = .returned (.int .i64 (wrap64 (x + y))) ∧ w.setCell ⟨g, k, none⟩ (.int .i64 (wrap64 (x + y))) = w' := by
  have hl := run_call_add (P := Tryz.prog) Tryz.func289 (by kernel_rfl) (by kernel_rfl) (by kernel_rfl) .i64 (by kernel_rfl) (y := y) (s := wrap64 (x + y)) hc hz (by simp [go_sem, wrap64, IntKind.wrap_i64]); generalize wrap64 (x + y) = z at *; go_enter Tryz.func276, Tryz.ntmps276; go_wp2; go_ret; exact ⟨rfl, rfl⟩
theorem has_yes (g : Nat) (kind : Int) (w : World) (h1 : 1 ≤ kind) (h2 : kind ≤ 6) : Calls Tryz.prog 275 #[.pointer (some ⟨g, 0, none⟩), .int .i64 kind] w fun e w' => e = .returned (.bool true) ∧ w = w' := by
  go_enter Tryz.func275, Tryz.ntmps275; go_wp2; go_ret; exact ⟨rfl, rfl⟩
theorem has_no (g : Nat) (kind : Int) (w : World) (h : ¬ (1 ≤ kind ∧ kind ≤ 6)) : Calls Tryz.prog 275 #[.pointer (some ⟨g, 0, none⟩), .int .i64 kind] w fun e w' => e = .returned (.bool false) ∧ w = w' := by
  have h' : kind < 1 ∨ (1 ≤ kind ∧ 6 < kind) := omg; clear h; rcases h' with h | ⟨h1, h2⟩
  all_goals
    go_enter Tryz.func275, Tryz.ntmps275; go_wp2; go_ret; exact ⟨qb9 (by first | (simp; done) | (simp; omega)), rfl⟩
theorem has_nil (kind : Int) (w : World) : Calls Tryz.prog 275 #[.pointer none, .int .i64 kind] w fun e w' => e = .returned (.bool false) ∧ w = w' := by
  go_enter Tryz.func275, Tryz.ntmps275; go_wp2; go_ret; exact ⟨rfl, rfl⟩
def qa7 (w : World) (g : Nat) (l : List Int) : Prop := l.length = 6 ∧ Blk w g 282 (l.map iv)
def mPut (l : List Int) (kind x : Int) : List Int := l.set (kind - 1).toNat x
def mGet (l : List Int) (kind : Int) : Int := l.getD (kind - 1).toNat 0
theorem mPut_len (l : List Int) (kind x : Int) : (mPut l kind x).length = l.length := by simp [mPut]
theorem qa7.cell {w : World} {g : Nat} {l : List Int} (h : qa7 w g l) (k : Nat) (hk : k < 6) : w.cell? ⟨g, k, none⟩ = some (.int .i64 (mGet l ((k : Int) + 1))) := by
  rw [h.2.cell]; have : k < l.length := by rw [h.1]; exact hk
  unfold mGet iv; rw [show ((k : Int) + 1 - 1).toNat = k from by omega]; simp [List.getD_eq_getElem?_getD, this]
theorem qa7.put {w : World} {g : Nat} {l : List Int} (h : qa7 w g l) (k : Nat) (x : Int) : qa7 (w.setCell ⟨g, k, none⟩ (.int .i64 x)) g (mPut l ((k : Int) + 1) x) := by
  refine ⟨by rw [mPut_len]; exact h.1, ?_⟩; unfold mPut; rw [show ((k : Int) + 1 - 1).toNat = k from by omega, List.map_set]; exact h.2.set_ k _
theorem newmeter_any (w : World) : Calls Tryz.prog 114 #[] w fun e w' => e = .returned (.pointer (some ⟨w.heap.size, 0, none⟩)) ∧ qa7 w' w.heap.size [0, 0, 0, 0, 0, 0] ∧ Below w.heap.size w w' ∧ w'.heap.size = w.heap.size + 1 := by
  have hbu : ∀ w : World, (Instr.build 282 #[]).run Tryz.prog w = .ok (.agg #[.int .i64 0, .int .i64 0, .int .i64 0, .int .i64 0, .int .i64 0, .int .i64 0]) w := fun w => run_build w _ _ _ (by kernel_rfl)
  go_enter Tryz.func114, Tryz.ntmps114; go_wp2; go_ret; exact ⟨rfl, ⟨rfl, Blk.top _ rfl rfl⟩, gwn, by simp⟩
theorem add_yes (g : Nat) (l : List Int) (kind n : Int) (w : World) (hm : qa7 w g l) (h1 : 1 ≤ kind) (h2 : kind ≤ 6) :
    Calls Tryz.prog 259 #[.pointer (some ⟨g, 0, none⟩), .int .i64 kind, .int .i64 n] w fun e w' => e = .returned (.bool true) ∧ qa7 w' g (mPut l kind (wrap64 (mGet l kind + n))) ∧ w.grownBy w' (some g) ∧ w'.heap.size = w.heap.size := by
  obtain ⟨k, rfl⟩ : ∃ k : Nat, kind = (k : Int) + 1 := ⟨(kind - 1).toNat, omg⟩; have hk : k < 6 := omg; have hc := hm.cell k hk; have hz := hm.2.frozen k; have hp := fun x => hdd (hm.put k x)
  generalize mGet l ((k : Int) + 1) = x at *; have hput : ∀ x, Hid (qa7 (w.setCell ⟨g, k, none⟩ (.int .i64 x)) g (mPut l ((k : Int) + 1) x)) := hp; clear hp; go_enter Tryz.func259, Tryz.ntmps259; go_wp2_with (first | (go_at_call 275; (with_reducible refine (has_yes _ _ _ h1 h2).mono ?_); rintro e w1 ⟨rfl, rfl⟩) | (go_at_call 276; (with_reducible refine (aadd_any _ _ _ _ _ hc hz).mono ?_); rintro e w1 ⟨rfl, rfl⟩)); go_ret; exact ⟨rfl, (hput _).out, qb1 _, by simp [World.setCell]⟩
def NoKind (A : Option Addr) (kind : Int) : Prop := (∃ g, A = some ⟨g, 0, none⟩ ∧ ¬ (1 ≤ kind ∧ kind ≤ 6)) ∨ A = none
theorem has_not (A : Option Addr) (kind : Int) (w : World) (h : NoKind A kind) : Calls Tryz.prog 275 #[.pointer A, .int .i64 kind] w fun e w' => e = .returned (.bool false) ∧ w = w' := by
  rcases h with ⟨g, rfl, h⟩ | rfl
  · exact has_no g kind w h
  · exact has_nil kind w
theorem add_no (A : Option Addr) (kind n : Int) (w : World) (h : NoKind A kind) : Calls Tryz.prog 259 #[.pointer A, .int .i64 kind, .int .i64 n] w fun e w' => e = .returned (.bool false) ∧ w = w' := by
  go_enter Tryz.func259, Tryz.ntmps259; go_wp2_with (go_at_call 275; (with_reducible refine (has_not _ _ _ h).mono ?_); rintro e w1 ⟨rfl, rfl⟩); go_ret; exact ⟨rfl, rfl⟩
theorem qa7.alloc {w : World} {g : Nat} {l : List Int} (h : qa7 w g l) (o : Obj) : qa7 (w.alloc o) g l := ⟨h.1, h.2.alloc o⟩
def inK (kind : Int) : Bool := decide (1 ≤ kind ∧ kind ≤ 6)
def mAdd (l : List Int) (kind n : Int) : List Int := if inK kind then mPut l kind (wrap64 (mGet l kind + n)) else l
theorem inK_yes {kind : Int} (h : inK kind = true) : 1 ≤ kind ∧ kind ≤ 6 := by simpa [inK] using h
theorem inK_no {kind : Int} {g : Nat} (h : inK kind = false) : NoKind (some ⟨g, 0, none⟩) kind := .inl ⟨g, rfl, by simpa [inK] using h⟩
theorem add_any (g : Nat) (l : List Int) (kind n : Int) (w : World) (hm : qa7 w g l) :
    Calls Tryz.prog 259 #[.pointer (some ⟨g, 0, none⟩), .int .i64 kind, .int .i64 n] w fun e w' => e = .returned (.bool (inK kind)) ∧ qa7 w' g (mAdd l kind n) ∧ w.grownBy w' (some g) ∧ w'.heap.size = w.heap.size := by
  cases h : inK kind with
  | true => unfold mAdd; rw [if_pos h]; exact add_yes g l kind n w hm (inK_yes h).1 (inK_yes h).2
  | false => unfold mAdd; rw [if_neg (by simp [h])]; exact (add_no _ kind n w (inK_no h)).mono fun e w' ⟨he, hw⟩ => by subst hw; exact ⟨he, hm, World.grownBy.refl _ _, rfl⟩
def qo4 (x : Nat) : Nat := if x % 2 = 1 then (x / 2) ^^^ 3988292384 else x / 2
def qr1 : Nat → Nat → Nat
  | 0, x => x
  | k + 1, x => qr1 k (qo4 x)
def qo9 (c b : Nat) : Nat := qr1 8 (c ^^^ b)
def qm7 (c : Nat) (l : List UInt8) : Nat := l.foldl (fun c b => qo9 c b.toNat) c
def qp9 (s : Nat) (l : List UInt8) : Nat := 4294967295 - qm7 (4294967295 - s) l
def qh4 (ls : List (List UInt8)) : Nat := ls.foldl qp9 0
theorem qq7 {a b : Nat} (ha : a < 4294967296) (hb : b < 4294967296) : a ^^^ b < 4294967296 := Nat.xor_lt_two_pow (n := 32) ha hb
theorem qy5 {x : Nat} (h : x < 4294967296) : qo4 x < 4294967296 := by
  unfold qo4; split
  · exact qq7 (by omega) (by omega)
  · omega
theorem crcBits_lt (k : Nat) : ∀ {x : Nat}, x < 4294967296 → qr1 k x < 4294967296 := by
  induction k with
  | zero => intro x h; exact h
  | succ k ih => intro x h; exact ih (qy5 h)
theorem va1 {c b : Nat} (hc : c < 4294967296) (hb : b < 256) : qo9 c b < 4294967296 := crcBits_lt 8 (qq7 hc (by omega))
theorem vi7 (l : List UInt8) : ∀ {c : Nat}, c < 4294967296 → qm7 c l < 4294967296 := by
  induction l with
  | nil => intro c h; exact h
  | cons x l ih => intro c h; exact ih (va1 h x.toNat_lt)
theorem vi6 (s : Nat) (l : List UInt8) : qp9 s l < 4294967296 := by unfold qp9; omega
theorem vb5 (c : Nat) (a : List UInt8) (x : UInt8) : qm7 c (a ++ [x]) = qo9 (qm7 c a) x.toNat := by simp [qm7]
theorem crcSum_take (ls : List (List UInt8)) (k : Nat) (h : k < ls.length) : qh4 (ls.take (k + 1)) = qp9 (qh4 (ls.take k)) (ls.getD k []) := by
  unfold qh4; rw [List.take_succ_eq_append_getElem h, List.foldl_append, List.getD_eq_getElem?_getD, List.getElem?_eq_getElem h]; rfl
theorem qr9 (ls : List (List UInt8)) : qh4 ls < 4294967296 := by
  rcases List.eq_nil_or_concat ls with rfl | ⟨l, x, rfl⟩
  · decide
  · have : qh4 (l ++ [x]) = qp9 (qh4 l) x := by simp [qh4]
    simp only [List.concat_eq_append, this]; exact vi6 _ _
theorem IntKind.wrap_u32' (n : Int) : IntKind.u32.wrap n = n % 4294967296 := by simp [IntKind.wrap, IntKind.bits, IntKind.signed]
theorem qu2 (a : Nat) (ha : a < 4294967296) : (BitVec.ofInt 32 (a : Int)).toNat = a := by
  rw [BitVec.ofInt_natCast, BitVec.toNat_ofNat]; exact Nat.mod_eq_of_lt (by omega)
theorem u32_xor (a b : Nat) (ha : a < 4294967296) (hb : b < 4294967296) : bits .xor .u32 (a : Int) (b : Int) = ((a ^^^ b : Nat) : Int) := by
  have hx := qq7 ha hb
  show IntKind.u32.wrap ((BitVec.ofInt 32 (a : Int) ^^^ BitVec.ofInt 32 (b : Int)).toNat : Int) = _
  rw [BitVec.toNat_xor, qu2 a ha, qu2 b hb, IntKind.wrap_u32']; omega
theorem u32_and_one (a : Nat) (ha : a < 4294967296) : bits .and .u32 (a : Int) 1 = ((a % 2 : Nat) : Int) := by
  show IntKind.u32.wrap ((BitVec.ofInt 32 (a : Int) &&& BitVec.ofInt 32 ((1 : Nat) : Int)).toNat : Int) = _
  rw [BitVec.toNat_and, qu2 a ha, qu2 1 (by omega), IntKind.wrap_u32', Nat.and_one_is_mod]; omega
theorem u32_turn (x : Nat) (hx : x < 4294967296) : bits .xor .u32 ((x : Int) / 2) 3988292384 = ((x / 2 ^^^ 3988292384 : Nat) : Int) := by
  have := u32_xor (x / 2) 3988292384 (by omega) (by omega); rw [← this]; rfl
theorem u32_not (s : Nat) (hs : s < 4294967296) : bits .xor .u32 IntKind.u32.max (s : Int) = ((4294967295 - s : Nat) : Int) := by
  show IntKind.u32.wrap ((BitVec.ofInt 32 IntKind.u32.max ^^^ BitVec.ofInt 32 (s : Int)).toNat : Int) = _
  have h1 : BitVec.ofInt 32 IntKind.u32.max = BitVec.allOnes 32 := by decide
  rw [h1, BitVec.allOnes_xor, BitVec.toNat_not, qu2 s hs, IntKind.wrap_u32']; omega
theorem step_any (c b : Nat) (w : World) (hc : c < 4294967296) (hb : b < 256) :
    Calls Tryz.prog 244 #[.int .u32 c, .int .u8 b] w fun e w' => e = .returned (.int .u32 (qo9 c b)) ∧ w = w' := by
  have hx := u32_xor c b hc (by omega); have hlt : c ^^^ b < 4294967296 := qq7 hc (by omega); have hd : qo9 c b = qr1 8 (c ^^^ b) := rfl; generalize hz : qo9 c b = z at *; generalize hy : c ^^^ b = y at *; have Hd := Lib.hid hd; clear hd hz hy; go_enter Tryz.func244, Tryz.ntmps244; go_wp2; go_loop [0, 9] (fun c i => ∃ k : Nat, ∃ x : Nat, k ≤ 8 ∧ x < 4294967296 ∧ Hid (z = qr1 (8 - k) x) ∧ i = .int .i64 k ∧ c = .int .u32 x) (fun _ i => 8 - (intOf i).toNat)
  case atStart => exact ⟨0, y, Nat.zero_le _, hlt, Hd, rfl, rfl⟩
  case round =>
    obtain ⟨k, x, hk, hx, HX, rfl, rfl⟩ := hrel; have ha := u32_and_one x hx; have ht := u32_turn x hx; have hb := @qy5 x hx
    by_cases hlt : k < 8
    · have HB : Hid (qr1 (8 - k) x = qr1 (8 - (k + 1)) (qo4 x)) := by rw [show 8 - k = (8 - (k + 1)) + 1 from by omega]; rfl
      by_cases h1 : x % 2 = 1
      · have HC : Hid (qo4 x = x / 2 ^^^ 3988292384) := if_pos h1; have h2 : (((x % 2 : Nat) : Int) == 1) = true := by rw [beq_iff_eq]; omega
        clear h1; go_wp2; go_round
        case rel => exact ⟨k + 1, _, by omega, hb, HX.out.trans HB.out, by go_num, by rw [HC.out]⟩
        case measure => simp [intOf]; omega
      · have HC : Hid (qo4 x = x / 2) := if_neg h1; have h2 : (((x % 2 : Nat) : Int) == 1) = false := by rw [beq_eq_false_iff_ne]; omega
        clear h1; go_wp2; go_round
        case rel => exact ⟨k + 1, _, by omega, hb, HX.out.trans HB.out, by go_num, by rw [HC.out]; rfl⟩
        case measure => simp [intOf]; omega
    · go_wp2; go_ret; refine ⟨?_, rfl⟩; have e : 8 - k = 0 := by omega
      rw [HX.out, e]; rfl
theorem crcFold_take (c : Nat) (l : List UInt8) (k : Nat) (h : k < l.length) : qm7 c (l.take (k + 1)) = qo9 (qm7 c (l.take k)) (qa2 l k) := by
  rw [qr5 l k h, vb5]; rfl
theorem more_any (s : Nat) (a : Option Addr) (n c : Nat) (l : List UInt8) (w : World) (hs : s < 4294967296) (hl : RB w a n l) (hn : n ≤ maxLen) :
    Calls Tryz.prog 202 #[.int .u32 s, .slice a n c] w fun e w' => e = .returned (.int .u32 (qp9 s l)) ∧ w = w' := by
  unfold maxLen at hn; have hd : qp9 s l = 4294967295 - qm7 (4294967295 - s) l := rfl; have hlen : l.length = n := hl.1; generalize hz : qp9 s l = z at *; have HL := Lib.hid hlen; clear hlen; have Hd := Lib.hid hd; clear hd hz; have hsg : IntKind.u32.signed = false := rfl; have hnot := u32_not s hs; go_enter Tryz.func202, Tryz.ntmps202; go_wp2; go_loop [5, 12] (fun c i => ∃ k : Nat, ∃ x : Nat, k ≤ n ∧ x < 4294967296 ∧ Hid (x = qm7 (4294967295 - s) (l.take k)) ∧ i = .int .i64 k ∧ c = .int .u32 x) (fun _ i => n - (intOf i).toNat)
  case atStart => exact ⟨0, 4294967295 - s, Nat.zero_le _, by omega, rfl, rfl, rfl⟩
  case round =>
    obtain ⟨k, x, hk, hx, HX, rfl, rfl⟩ := hrel; clear hnot
    by_cases hlt : k < n
    · have HF : Hid (qm7 (4294967295 - s) (l.take (k + 1)) = qo9 x (qa2 l k)) := by rw [HX.out]; exact crcFold_take _ _ _ (by rw [HL.out]; exact hlt)
      obtain ⟨b, o, rfl, hb, hc⟩ := hl.at_ hlt; have h8 := qf9 l k; have hy := va1 hx h8; go_wp2_with (go_at_call 244; (with_reducible refine (step_any _ _ _ hx h8).mono ?_); rintro e w' ⟨rfl, rfl⟩); go_round
      case rel => exact ⟨k + 1, _, by omega, hy, HF.out.symm, by go_num, rfl⟩
      case measure => simp [intOf]; omega
    · have hnot := u32_not x hx; go_wp2; go_ret; exact ⟨ret_nat (by rw [Hd.out, HX.out, List.take_of_length_le (by rw [HL.out]; omega)]), rfl⟩
theorem more_zero (a : Option Addr) (n c : Nat) (l : List UInt8) (w : World) (hl : RB w a n l) (hn : n ≤ maxLen) :
    Calls Tryz.prog 202 #[.int .u32 0, .slice a n c] w fun e w' => e = .returned (.int .u32 (qp9 0 l)) ∧ w = w' := more_any 0 a n c l w (by omega) hl hn
def RBs (w : World) (a : Option Addr) (n : Nat) (ls : List (List UInt8)) : Prop :=
  ls.length = n ∧ ∃ V : Nat → Option Addr × Nat × Nat, Row w a ls.length (fun i => .slice (V i).1 (V i).2.1 (V i).2.2) ∧ ∀ i, i < ls.length → RB w (V i).1 (V i).2.1 (ls.getD i []) ∧ (V i).2.1 ≤ maxLen
theorem sum_any (a : Option Addr) (n c : Nat) (ls : List (List UInt8)) (w : World) (hl : RBs w a n ls) (hm : n ≤ maxLen) :
    Calls Tryz.prog 134 #[.slice a n c] w fun e w' => e = .returned (.int .u32 (qh4 ls)) ∧ w = w' := by
  unfold maxLen at hm; obtain ⟨hn, V, hrow, hV⟩ := hl; generalize hz : qh4 ls = z at *; have Hn := Lib.hid hn; rw [hn] at hrow; clear hn; have Hz := Lib.hid hz; clear hz; go_enter Tryz.func134, Tryz.ntmps134; go_wp2; go_loop [3, 8] (fun c i => ∃ k : Nat, ∃ x : Nat, k ≤ n ∧ x < 4294967296 ∧ Hid (x = qh4 (ls.take k)) ∧ i = .int .i64 k ∧ c = .int .u32 x) (fun _ i => n - (intOf i).toNat)
  case atStart => exact ⟨0, 0, Nat.zero_le _, by omega, rfl, rfl, rfl⟩
  case round =>
    obtain ⟨k, x, hk, hx, HX, rfl, rfl⟩ := hrel
    by_cases hlt : k < n
    · have HF : Hid (qh4 (ls.take (k + 1)) = qp9 x (ls.getD k [])) := by rw [HX.out]; exact crcSum_take _ _ (by rw [Hn.out]; exact hlt)
      obtain ⟨b, o, rfl, hb, hc⟩ := hrow.at_ hlt; obtain ⟨hr, hm2⟩ := hV k (by rw [Hn.out]; exact hlt); have hy := vi6 x (ls.getD k []); generalize ls.getD k [] = lk at *; go_wp2_with (go_at_call 202; (with_reducible refine (more_any _ _ _ _ lk _ hx hr hm2).mono ?_); rintro e w' ⟨rfl, rfl⟩); go_round
      case rel => exact ⟨k + 1, _, by omega, hy, HF.out.symm, by go_num, rfl⟩
      case measure => simp [intOf]; omega
    · go_wp2; go_ret; exact ⟨ret_nat (by rw [HX.out, ← Hz.out, List.take_of_length_le (by rw [Hn.out]; omega)]), rfl⟩
theorem RBs.one {w : World} {g : Nat} {t : TypeId} {fr : Nat × Nat} {A : Option Addr} {n c : Nat} {l : List UInt8} (hg : w.heap[g]? = some (.cells #[.slice A n c] t fr)) (h : RB w A n l) (hn : n ≤ maxLen) :
    RBs w (some ⟨g, 0, none⟩) 1 [l] :=
  ⟨rfl, fun _ => (A, n, c), Row.of_block hg 0 (fun i hi => by
    have : i = 0 := by simp at hi; exact hi
    subst this; rfl), fun i hi => by
    have : i = 0 := by simp at hi; exact hi
    subst this; exact ⟨h, hn⟩⟩
def qa5 : List UInt8 := List.replicate 128 0
theorem qd2 : qa5.length = 128 := by simp [qa5]
def le4 (s : Nat) : List UInt8 := tabB 4 (fun i => s / 256 ^ i % 256)
theorem qh5 (s : Nat) : (le4 s).length = 4 := by simp [le4, qx6]
def qf7 (kind n : Nat) (load : List UInt8) : List UInt8 :=
  UInt8.ofNat kind :: (putL n ++ (UInt8.ofNat load.length :: (load ++ List.replicate (113 - load.length) 0)))
def qn6 (kind n : Nat) (load : List UInt8) : List UInt8 := qf7 kind n load ++ (le4 (qh4 [qf7 kind n load]) ++ [215])
theorem qn2 (kind n : Nat) (load : List UInt8) (h : load.length ≤ 113) : (qf7 kind n load).length = 123 := by
  simp [qf7, qy0]; omega
theorem qt9 (kind n : Nat) (load : List UInt8) (h : load.length ≤ 113) : (qn6 kind n load).length = 128 := by
  simp [qn6, qn2 kind n load h, qh5]
theorem sealL_first (kind n : Nat) (load : List UInt8) (h : kind < 256) : qa2 (qn6 kind n load) 0 = kind := by
  simp only [qn6, qf7, qa2, List.cons_append, List.getD_cons_zero]; exact UInt8.toNat_ofNat_of_lt' (by simp [UInt8.size]; omega)
theorem sealL_last (kind n : Nat) (load : List UInt8) (h : load.length ≤ 113) : qa2 (qn6 kind n load) 127 = 215 := by
  have h1 := qn2 kind n load h; simp only [qn6, qa2, List.getD_eq_getElem?_getD]; rw [List.getElem?_append_right omg, List.getElem?_append_right (by rw [qh5]; omega), h1, qh5]
  rfl
theorem sealL_body {kind n : Nat} {load : List UInt8} (h : load.length ≤ 113) : (qn6 kind n load).take 123 = qf7 kind n load := by
  have h1 := qn2 kind n load h; unfold qn6; rw [List.take_append_of_le_length omg, List.take_of_length_le omg]
def qd1 (b : List UInt8) : Nat := getL ((b.drop 1).take 8)
def qe2 (b : List UInt8) : List UInt8 := (b.drop 10).take (qa2 b 9)
def qs5 (b : List UInt8) (kind : Int) : Bool :=
  decide (1 ≤ kind) && decide (kind ≤ 255) && decide (qd1 b < 9223372036854775808) && decide (qa2 b 9 ≤ 113) && decide (qn6 kind.toNat (qd1 b) (qe2 b) = b)
theorem qz6 (b : List UInt8) : qd1 b < 18446744073709551616 := by
  unfold qd1; have h1 := vk3 ((b.drop 1).take 8); have h2 : ((b.drop 1).take 8).length ≤ 8 := List.length_take_le _ _; have h3 : 256 ^ ((b.drop 1).take 8).length ≤ 256 ^ 8 := Nat.pow_le_pow_right omg h2; omega
theorem qu1 {b : List UInt8} (h : b.length = 128) (h9 : qa2 b 9 ≤ 113) : (qe2 b).length = qa2 b 9 := by
  simp [qe2, h]; omega
theorem qw8 {b : List UInt8} {kind : Int} (h : qs5 b kind = true) : 1 ≤ kind ∧ kind ≤ 255 ∧ qd1 b < 9223372036854775808 ∧ qa2 b 9 ≤ 113 ∧ qn6 kind.toNat (qd1 b) (qe2 b) = b := by
  simpa [qs5, and_assoc] using h
theorem vh7 {b : List UInt8} {kind : Int} (h : qs5 b kind = true) : (qa2 b 0 : Int) = kind ∧ qa2 b 127 = 215 ∧ b.length = 128 := by
  obtain ⟨h1, h2, h3, h4, h5⟩ := qw8 h
  by_cases hl : (qe2 b).length ≤ 113
  · rw [← h5, sealL_first _ _ _ omg, sealL_last _ _ _ hl, qt9 _ _ _ hl]; omega
  · have := List.length_take_le (qa2 b 9) (b.drop 10); unfold qe2 at hl; omega
theorem qz2 {α : Type} (a b c k : List α) (h : b.length = k.length) : splice (a ++ (b ++ c)) a.length k = a ++ (k ++ c) := by
  unfold splice; rw [List.take_left', List.drop_append, List.drop_of_length_le omg, List.nil_append, show a.length + k.length - a.length = b.length from by omega, List.drop_left']
  · rfl
  · rfl
theorem seal_L3 (a b : UInt8) (p l : List UInt8) (hp : p.length = 8) (hl : l.length ≤ 113) :
    splice (splice (((qa5.set 0 a).set 9 b).set 127 215) 1 p) 10 l = [a] ++ (p ++ ([b] ++ (l ++ (List.replicate (117 - l.length) 0 ++ [215])))) := by
  have e1 : (((qa5.set 0 a).set 9 b).set 127 215) = [a] ++ (List.replicate 8 0 ++ ([b] ++ (List.replicate 117 0 ++ [215]))) := rfl; have e2 : splice ([a] ++ (List.replicate 8 0 ++ ([b] ++ (List.replicate 117 0 ++ [215])))) 1 p = [a] ++ (p ++ ([b] ++ (List.replicate 117 0 ++ [215]))) :=
    qz2 [a] (List.replicate 8 0) _ p (by rw [hp]; simp)
  have e3 : List.replicate 117 (0 : UInt8) = List.replicate l.length 0 ++ List.replicate (117 - l.length) 0 := by rw [List.replicate_append_replicate]; congr 1; omega
  rw [e1, e2, e3]; have e4 : [a] ++ (p ++ ([b] ++ (List.replicate l.length 0 ++ List.replicate (117 - l.length) 0 ++ [215]))) = ([a] ++ (p ++ [b])) ++ (List.replicate l.length 0 ++ (List.replicate (117 - l.length) 0 ++ [215])) := by simp only [List.append_assoc]
  rw [e4]; have := qz2 ([a] ++ (p ++ [b])) (List.replicate l.length 0) (List.replicate (117 - l.length) 0 ++ [215]) l smp; rw [show ([a] ++ (p ++ [b])).length = 10 from by simp [hp]] at this; rw [this]; simp only [List.append_assoc]
theorem seal_L3_body (kind n : Nat) (l : List UInt8) (hl : l.length ≤ 113) :
    ([UInt8.ofNat kind] ++ (putL n ++ ([UInt8.ofNat l.length] ++ (l ++ (List.replicate (117 - l.length) 0 ++ [215]))))) = qf7 kind n l ++ ([0, 0, 0, 0] ++ [215]) := by
  have e3 : List.replicate (117 - l.length) (0 : UInt8) = List.replicate (113 - l.length) 0 ++ [0, 0, 0, 0] := by
    have h4 : ([0, 0, 0, 0] : List UInt8) = List.replicate 4 0 := rfl; rw [h4, List.replicate_append_replicate]; congr 1; omega
  rw [e3]; simp [qf7]
theorem seal_L3_take (kind n : Nat) (l : List UInt8) (hl : l.length ≤ 113) : (qf7 kind n l ++ ([0, 0, 0, 0] ++ [215])).take 123 = qf7 kind n l := by
  have h := qn2 kind n l hl; rw [List.take_append_of_le_length omg, List.take_of_length_le omg]
theorem seal_L4 (kind n : Nat) (l : List UInt8) (hl : l.length ≤ 113) : splice (qf7 kind n l ++ ([0, 0, 0, 0] ++ [215])) 123 (le4 (qh4 [qf7 kind n l])) = qn6 kind n l := by
  have h := qn2 kind n l hl; have := qz2 (qf7 kind n l) [0, 0, 0, 0] [215] (le4 (qh4 [qf7 kind n l])) (by rw [qh5]; rfl); rw [h] at this; rw [this]; rfl
theorem qf4 : (Tryz.prog.info? 152).map (fun i => (i.zero, i.size)) = some (some (aggB qa5), 128) := by kernel_rfl
def KindOut (kind n : Int) : Prop := kind < 1 ∨ (1 ≤ kind ∧ 255 < kind) ∨ (1 ≤ kind ∧ kind ≤ 255 ∧ n < 0)
theorem make_arg (kind n : Int) (A : Option Addr) (m c : Nat) (w : World) (h : kind < 1 ∨ 255 < kind ∨ n < 0) :
    Calls Tryz.prog 184 #[.int .i64 kind, .int .i64 n, .slice A m c] w fun e w' => e = .returned (.tuple #[aggB qa5, .int .i64 2]) ∧ Below w.heap.size w w' := by
  have h' : KindOut kind n := by unfold KindOut; omega
  clear h; have hz := (zero_of_info qf4).1; have hi := (zero_of_info qf4).2; have hl : (qa5.map bv).length = 128 := by simp [qd2]
  have h1 := qk1 (l := qa5); unfold aggB at *; generalize qa5.map bv = Z at *; have Hl := hdd hl; have Hi := hdd hi; have H1 := hdd h1; clear hl hi h1; rcases h' with h | ⟨h2, h⟩ | ⟨h2, h3, h⟩
  all_goals
    go_enter Tryz.func184, Tryz.ntmps184; go_wp2_with (first | (refine qd7 rfl (x := .tmp 8) rfl rfl (t := 152) (cs := Z) blq Tryz.underlying152 Hi.out Hl.out (xs := Z) (by rw [List.drop_zero, List.take_of_length_le (by rw [Hl.out]; omega)]) ?_) | (refine qb3 rfl (x := .tmp 6) (y := .tmp 21) rfl rfl rfl (t := 152) (cs := Z) blq Hi.out Hl.out (by rw [Hl.out]; omega) H1.out ?_; intro w1 hb1 hg1 hs1)); refine bodyPost_ret (v := .tuple #[.agg Z.toArray, .int .i64 2]) (qg7 Tryz.results184 _ rfl rfl (by rw [qd0 _ _ rfl] at hb1; exact hb1) Tryz.underlying152 Hi.out Hl.out) rfl ?_; exact ⟨rfl, qc6 gwn hg1 szz nlr⟩
theorem make_limit (kind n : Int) (A : Option Addr) (m c : Nat) (w : World) (h1 : 1 ≤ kind) (h2 : kind ≤ 255) (h3 : 0 ≤ n) (h4 : 113 < m) (hm : m ≤ maxLen) :
    Calls Tryz.prog 184 #[.int .i64 kind, .int .i64 n, .slice A m c] w fun e w' => e = .returned (.tuple #[aggB qa5, .int .i64 3]) ∧ Below w.heap.size w w' := by
  unfold maxLen at hm; have hz := (zero_of_info qf4).1; have hi := (zero_of_info qf4).2; have hl : (qa5.map bv).length = 128 := by simp [qd2]
  have h1 := qk1 (l := qa5); unfold aggB at *; generalize qa5.map bv = Z at *; have Hl := hdd hl; have Hi := hdd hi; have H1 := hdd h1; clear hl hi h1; go_enter Tryz.func184, Tryz.ntmps184; go_wp2_with (first | (refine qd7 rfl (x := .tmp 8) rfl rfl (t := 152) (cs := Z) blq Tryz.underlying152 Hi.out Hl.out (xs := Z) (by rw [List.drop_zero, List.take_of_length_le (by rw [Hl.out]; omega)]) ?_) | (refine qb3 rfl (x := .tmp 6) (y := .tmp 26) rfl rfl rfl (t := 152) (cs := Z) blq Hi.out Hl.out (by rw [Hl.out]; omega) H1.out ?_; intro w1 hb1 hg1 hs1)); refine bodyPost_ret (v := .tuple #[.agg Z.toArray, .int .i64 3]) (qg7 Tryz.results184 _ rfl rfl (by rw [qd0 _ _ rfl] at hb1; exact hb1) Tryz.underlying152 Hi.out Hl.out) rfl ?_; exact ⟨rfl, qc6 gwn hg1 szz nlr⟩
end Go.Proofs.YtpmkpckldnnigaaGreat
