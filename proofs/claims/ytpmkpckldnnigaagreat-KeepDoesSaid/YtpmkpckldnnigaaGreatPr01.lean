/- Parts: Mem. -/
import Derived.Test.YtpmkpckldnnigaaGreatPr00
import Derived.Maps.AppendAt
import Derived.Deep.AppendLies
import Derived.OwnWalk
import Derived.Laws.CopyOwn
import Derived.Laws.CopyRow
import Derived.Laws.Rows
import Derived.Deep.Draws
import Derived.ChangeKeysEq
import Derived.Laws.StructEq
import Derived.Deep.RegionHeld3
namespace Go.Proofs.YtpmkpckldnnigaaGreat
open Go.RowKit

/-- The cells of an own slice, its value written out. -/
theorem own_slice {w : World} {base : Nat} {e : TypeId} {size n : Nat} {v : Value} {xs : List Value} (h : w.ownsRow base e size v n xs) :
    ∃ A c, v = .slice A n c ∧ n ≤ c ∧ c ≤ maxLen ∧ (∀ g, A.map (·.block) = some g → base ≤ g ∧ g < w.heap.size) := by
  rcases h.2 with ⟨rfl, rfl⟩ | ⟨g, cap, cur, rfl, hb, hg, hnc, hm, _⟩
  · exact ⟨none, 0, rfl, Nat.le_refl _, by unfold maxLen; omega, fun g hg => by cases hg⟩
  · exact ⟨_, cap, rfl, hnc, hm, fun g' hg' => by injection hg' with hg'; subst hg'; exact ⟨hb, lt_of_block hg⟩⟩

def RowL (w : World) (A : Option Addr) (n size : Nat) (xs : List Value) : Prop := xs.length = n * size ∧ Row w A (n * size) (fun i => xs.getD i undef)

section
variable {P : Program} (w : World)

end

section
variable {α : Type}
/-- A slice of one-cell elements that reads as a list; an own one. -/
def Rd (enc : α → Value) (w : World) (A : Option Addr) (n : Nat) (l : List α) : Prop := l.length = n ∧ Row w A n (fun i => (l.map enc).getD i undef)
def Ow (enc : α → Value) (w : World) (base : Nat) (e : TypeId) (A : Option Addr) (n c : Nat) (l : List α) : Prop := l.length = n ∧ w.ownsRow base e 1 (.slice A n c) n (l.map enc)
variable {enc : α → Value} {w w' : World} {A B : Option Addr} {n m c d base : Nat} {e : TypeId} {l k : List α}
theorem Ow.rd (h : Ow enc w base e A n c l) : Rd enc w A n l := ⟨h.1, Row.of_own h.2⟩
theorem Rd.below {b : Nat} (h : Rd enc w A n l) (hb : Below b w w') (hB : w.heap.size ≤ b) : Rd enc w' A n l := ⟨h.1, h.2.below hb hB⟩
theorem Rd.nil (enc : α → Value) (w : World) (A : Option Addr) : Rd enc w A 0 [] := ⟨rfl, Row.nil _ _ _⟩
theorem getD_map (l : List α) (i : Nat) (h : i < l.length) : (l.map enc).getD i undef = enc l[i] := by simp [List.getD_eq_getElem?_getD, h]
theorem Rd.of_block {g : Nat} {cs : Array Value} {t : TypeId} {fr : Nat × Nat} (hg : w.heap[g]? = some (.cells cs t fr)) {l : List α} (h : cs.toList = l.map enc) : Rd enc w (some ⟨g, 0, none⟩) l.length l :=
  ⟨rfl, Row.of_block hg 0 fun i hi => by
    rw [Nat.zero_add, ← Array.getElem?_toList, h, List.getD_eq_getElem?_getD, List.getElem?_eq_getElem (by simpa using hi)]; rfl⟩
theorem Ow.new (w : World) (e : TypeId) (cs : Array Value) (l : List α) (h : cs.toList = l.map enc) (hm : l.length ≤ maxLen) :
    Ow enc (w.alloc (.cells cs e)) w.heap.size e (some ⟨w.heap.size, 0, none⟩) l.length l.length l :=
  ⟨rfl, by
    have := World.ownsRow_lit (base := w.heap.size) (e := e) (size := 1) w cs l.length (Nat.le_refl _) hm (by rw [← Array.length_toList, h]; simp)
    rwa [h] at this⟩
theorem Ow.lt (h : Ow enc w base e A n c l) : ∀ g, A.map (·.block) = some g → base ≤ g ∧ g < w.heap.size := by
  intro g hg
  cases A with
  | none => cases hg
  | some a => exact h.2.lt g (by simpa [Value.ownBlock] using hg)
theorem Ow.cap (h : Ow enc w base e A n c l) : n ≤ c ∧ c ≤ maxLen := by
  obtain ⟨A', c', e', h1, h2, _⟩ := own_slice h.2
  injection e' with _ _ e'
  subst e'
  exact ⟨h1, h2⟩
theorem Ow.below {b : Nat} (h : Ow enc w base e A n c l) (hb : Below b w w') (hB : w.heap.size ≤ b) : Ow enc w' base e A n c l := by
  refine ⟨h.1, h.2.1, ?_⟩
  rcases h.2.2 with hn | ⟨g, cap, cur, hv, hbg, hg, rest⟩
  · exact .inl hn
  · exact .inr ⟨g, cap, cur, hv, hbg, by rw [hb.block g (Nat.lt_of_lt_of_le (lt_of_block hg) hB)]; exact hg, rest⟩
theorem Ow.rebase {base' : Nat} (h : Ow enc w base e A n c l) (hb : base' ≤ base) : Ow enc w base' e A n c l := by
  refine ⟨h.1, h.2.1, ?_⟩
  rcases h.2.2 with hn | ⟨g, cap, cur, hv, hbg, rest⟩
  · exact .inl hn
  · exact .inr ⟨g, cap, cur, hv, Nat.le_trans hb hbg, rest⟩
theorem Ow.addr (h : Ow enc w base e A n c l) (h0 : 0 < n) : ∃ g, A = some ⟨g, 0, none⟩ ∧ base ≤ g ∧ g < w.heap.size := by
  rcases h.2.2 with ⟨_, hn⟩ | ⟨g, cap, cur, hv, hb, hg, _⟩
  · omega
  · injection hv with hv _ _
    exact ⟨g, hv, hb, lt_of_block hg⟩
theorem Ow.set {g : Nat} (h : Ow enc w base e (some ⟨g, 0, none⟩) n c l) (i : Nat) (x : α) (u : Value) (hu : u = enc x) : Ow enc (w.setCell ⟨g, i, none⟩ u) base e (some ⟨g, 0, none⟩) n c (l.set i x) :=
  ⟨by rw [List.length_set]; exact h.1, by subst hu; rw [List.map_set]; exact (h.2.stored i (enc x)).1⟩
theorem Ow.nil (enc : α → Value) (w : World) (base : Nat) (e : TypeId) : Ow enc w base e none 0 0 [] := ⟨rfl, World.ownsRow_nil w base e 1⟩

end

def bv (b : UInt8) : Value := .int .u8 (b.toNat : Int)
def iv (n : Int) : Value := .int .i64 n
theorem bv_getD (l : List UInt8) (i : Nat) (h : i < l.length) : (l.map bv).getD i undef = .int .u8 (byteAt l i) := by
  rw [getD_map l i h]; unfold bv byteAt; simp [List.getD_eq_getElem?_getD, h]
theorem RB.rd {w : World} {A : Option Addr} {n : Nat} {l : List UInt8} (h : RB w A n l) : Rd bv w A n l := ⟨h.1, h.2.congr fun i hi => (bv_getD l i (by rw [h.1]; exact hi)).symm⟩
theorem Rd.rb {w : World} {A : Option Addr} {n : Nat} {l : List UInt8} (h : Rd bv w A n l) : RB w A n l := ⟨h.1, h.2.congr fun i hi => bv_getD l i (by rw [h.1]; exact hi)⟩
abbrev OB (w : World) (base : Nat) (e : TypeId) (A : Option Addr) (n c : Nat) (l : List UInt8) : Prop := Ow bv w base e A n c l
theorem RB.of_block {w : World} {g : Nat} {cs : Array Value} {t : TypeId} {fr : Nat × Nat} (hg : w.heap[g]? = some (.cells cs t fr)) {l : List UInt8} (h : cs.toList = l.map bv) : RB w (some ⟨g, 0, none⟩) l.length l := (Rd.of_block hg h).rb
/-- A slice of numbers. -/
def intAt (l : List Int) (i : Nat) : Int := l.getD i 0
def RI (w : World) (a : Option Addr) (n : Nat) (l : List Int) : Prop := l.length = n ∧ Row w a n (fun i => .int .i64 (intAt l i))
theorem iv_getD (l : List Int) (i : Nat) (h : i < l.length) : (l.map iv).getD i undef = .int .i64 (intAt l i) := by
  rw [getD_map l i h]; unfold iv intAt; simp [List.getD_eq_getElem?_getD, h]
theorem RI.rd {w : World} {A : Option Addr} {n : Nat} {l : List Int} (h : RI w A n l) : Rd iv w A n l := ⟨h.1, h.2.congr fun i hi => (iv_getD l i (by rw [h.1]; exact hi)).symm⟩
theorem RI.at_ {w : World} {a : Option Addr} {n k : Nat} {l : List Int} (h : RI w a n l) (hk : k < n) : ∃ b o, a = some ⟨b, o, none⟩ ∧ b < w.heap.size ∧ w.cell? ⟨b, o + k, none⟩ = some (.int .i64 (intAt l k)) := h.2.at_ hk
theorem RI.below {w w' : World} {a : Option Addr} {n B : Nat} {l : List Int} (h : RI w a n l) (hb : Below B w w') (hB : w.heap.size ≤ B) : RI w' a n l := ⟨h.1, h.2.below hb hB⟩
end Go.Proofs.YtpmkpckldnnigaaGreat
namespace Go.Proofs.YtpmkpckldnnigaaGreat
open Go.RowKit
section
variable {P : Program} (w : World)
end
section
variable {α : Type} {enc : α → Value} {w w' : World} {A B : Option Addr} {n m c d base : Nat} {e : TypeId} {l k : List α}
/-- The row of which a slice is the first part. -/
theorem Ow.front {A' : Option Addr} {c' N : Nat} {L : List α} (hown : Ow enc w' base e A' N c' L) (hb : A'.map (·.block) = A.map (·.block)) (h0 : Ow enc w base e A n c l) (hn : n ≤ N) (hp : L.take n = l) : Rd enc w' A n l := by
  refine ⟨h0.1, fun hn0 => ?_⟩
  obtain ⟨g, rfl, _, _⟩ := h0.addr hn0
  obtain ⟨g', rfl, _, hlt⟩ := hown.addr (by omega)
  simp only [Option.map_some, Option.some.injEq] at hb
  subst hb
  refine ⟨g', 0, rfl, hlt, fun i hi => ?_⟩
  obtain ⟨b, o, e1, _, hc⟩ := hown.rd.2.at_ (show i < N by omega)
  injection e1 with e1
  injection e1 with e2 e3 _
  subst e2 e3
  rw [hc, ← hp]
  congr 1
  show _ = ((L.take n).map enc).getD i undef
  rw [List.getD_eq_getElem?_getD, List.getD_eq_getElem?_getD, List.map_take, List.getElem?_take, if_pos hi]
end
end Go.Proofs.YtpmkpckldnnigaaGreat
namespace Go.Proofs.YtpmkpckldnnigaaGreat
open Go.RowKit

def Blk (w : World) (g : Nat) (t : TypeId) (cs : List Value) : Prop := w.heap[g]? = some (.cells cs.toArray t (0, 0))
section
variable {w w' : World} {g : Nat} {t : TypeId} {cs : List Value}
theorem Blk.lt (h : Blk w g t cs) : g < w.heap.size := lt_of_block h
theorem Blk.cell (h : Blk w g t cs) (i : Nat) : w.cell? ⟨g, i, none⟩ = cs[i]? := by
  rw [cell_of_row w g i cs.toArray t (0, 0) h]; simp
theorem Blk.frozen (h : Blk w g t cs) (i : Nat) : w.frozen? ⟨g, i, none⟩ = false := frozen_of_row w g i cs.toArray t h
theorem Blk.new (w : World) (t : TypeId) (cs : List Value) : Blk (w.alloc (.cells cs.toArray t)) w.heap.size t cs := heap_alloc_new w _
theorem Blk.top {cs' : Array Value} (w : World) (hg : g = w.heap.size) (h : cs' = cs.toArray) : Blk (w.alloc (.cells cs' t)) g t cs := by subst hg h; exact heap_alloc_new w _
theorem Blk.drew (h : Blk w g t cs) : Blk w.drew g t cs := h
theorem Blk.drewN (h : Blk w g t cs) (n : Nat) : Blk (w.drewN n) g t cs := h
theorem Blk.alloc (h : Blk w g t cs) (o : Obj) : Blk (w.alloc o) g t cs := (Below.heap_alloc w o g h.lt).trans h
theorem Blk.set_ (h : Blk w g t cs) (i : Nat) (u : Value) : Blk (w.setCell ⟨g, i, none⟩ u) g t (cs.set i u) := by
  unfold Blk at h ⊢
  simp [World.setCell, Array.getElem?_modify, h]
theorem Blk.far (h : Blk w g t cs) {p : Addr} (hp : g ≠ p.block) (u : Value) : Blk (w.setCell p u) g t cs := (Below.heap_setCell w p u g hp).trans h
theorem Blk.below {B : Nat} (h : Blk w g t cs) (hb : Below B w w') (hg : g < B) : Blk w' g t cs := (hb.block g hg).trans h
theorem Blk.grown {row : Option Nat} (h : Blk w g t cs) (hb : w.grownBy w' row) (hg : row ≠ some g) : Blk w' g t cs := (hb.block g h.lt (fun e => hg e.symm)).trans h
theorem Blk.ne_ {g' : Nat} {t' : TypeId} {cs' : List Value} (h : Blk w g t cs) (h' : Blk w g' t' cs') (hne : t ≠ t') : g ≠ g' := by
  rintro rfl
  unfold Blk at h h'
  rw [h] at h'
  injection h' with h'
  injection h' with _ ht
  exact hne ht
theorem Blk.setRow (h : Blk w g t cs) (cs' : List Value) : Blk (w.setRow g cs'.toArray) g t cs' := setRow_heap w g _ _ t _ h
end

theorem grown_setCell {w : World} {g k : Nat} (u : Value) : w.grownBy (w.setCell ⟨g, k, none⟩ u) (some g) :=
  ⟨rfl, rfl, rfl, by simp [World.setCell], fun i _ hi => Below.heap_setCell w _ u i (fun e => hi (by rw [e]))⟩

theorem grown_setRow {w : World} {g : Nat} (cs : Array Value) : w.grownBy (w.setRow g cs) (some g) :=
  ⟨rfl, rfl, rfl, by simp [World.setRow], fun i _ hi => setRow_other w g i cs (fun e => hi (by rw [e]))⟩
theorem below_of_only {B g : Nat} {a w w' : World} (h : Below B a w) (hg : w.grownBy w' (some g)) (hB : B ≤ w.heap.size) (h2 : B ≤ g) : Below B a w' :=
  h.grown hg hB (fun k hk => by injection hk with hk; omega)

section
variable {P : Program} {w : World}
/-- A whole array into cells side by side. -/
theorem run_store_arr {g off n : Nat} {t ty : TypeId} {cs xs : List Value} (hb : Blk w g t cs) (hi : (P.info? ty).map (·.size) = some n)
    (hx : xs.length = n) (hfit : off + n ≤ cs.length) (h1 : ∀ v ∈ xs, v.oneCell' = true) : (storeVar ty ⟨g, off, none⟩ (.agg xs.toArray)).run P w = .ok () (w.setRow g (splice cs off xs).toArray) := by
  have hr := run_storeCells_at P g off t xs 0 cs.toArray w hb (by simp; omega) h1
  cases hq : P.info? ty with
  | none => simp [hq] at hi
  | some i =>
    have hs : i.size = n := by simpa [hq] using hi
    simp [storeVar, sizeOf, typeInfo, hq, Value.cells, hx, hs]
    simpa [splice, List.append_assoc] using hr

variable {ops : Array Oper} {rest : List Oper} {o : Oper} {a : Act} {Q : Exit → Act → World → Prop} {K : Act → World → Prop}
theorem wp_store_arr {ty : TypeId} {x y : Operand} (ho : o.op = .store ty x y) {g off n : Nat} (hx : a.eval x = .pointer (some ⟨g, off, none⟩)) {t : TypeId} {cs xs : List Value} (hy : a.eval y = .agg xs.toArray) (hb : Blk w g t cs)
    (hi : (P.info? ty).map (·.size) = some n) (hl : xs.length = n) (hfit : off + n ≤ cs.length) (h1 : ∀ v ∈ xs, v.oneCell' = true)
    (h : ∀ w', Blk w' g t (splice cs off xs) → w.grownBy w' (some g) → w'.heap.size = w.heap.size → K (a.put o.dst (.tuple #[])) w') : o.wp P a w K Q := by
  unfold Oper.wp execOp
  simp only [ho, hx, hy, Instr.storeAt, Instr.sureAddr, Sem.run_bind, Sem.run_pure, Result.andThen_ok, run_store_arr hb hi hl hfit h1]
  exact h _ (hb.setRow _) (grown_setRow _) (by simp)
theorem wpList_store_arr (hgd : o.guard = none) {ty : TypeId} {x y : Operand} (ho : o.op = .store ty x y) {g off n : Nat} (hx : a.eval x = .pointer (some ⟨g, off, none⟩)) {t : TypeId} {cs xs : List Value} (hy : a.eval y = .agg xs.toArray) (hb : Blk w g t cs)
    (hi : (P.info? ty).map (·.size) = some n) (hl : xs.length = n) (hfit : off + n ≤ cs.length) (h1 : ∀ v ∈ xs, v.oneCell' = true)
    (h : ∀ w', Blk w' g t (splice cs off xs) → w.grownBy w' (some g) → w'.heap.size = w.heap.size → wpList P ops Q rest (a.put o.dst (.tuple #[])) w') : wpList P ops Q (o :: rest) a w :=
  wpList_plain hgd fun _ hK => wp_store_arr ho hx hy hb hi hl hfit h1 fun w' h2 h3 h4 => hK _ _ (h w' h2 h3 h4)
end

section
variable {α : Type} {enc : α → Value}
end

/-- A block of bytes. -/
abbrev BlkB (w : World) (g : Nat) (t : TypeId) (l : List UInt8) : Prop := Blk w g t (l.map bv)
def aggB (l : List UInt8) : Value := .agg (l.map bv).toArray
theorem mem_bv {l : List UInt8} : ∀ v ∈ l.map bv, v.oneCell' = true := by
  intro v hv; obtain ⟨x, _, rfl⟩ := List.mem_map.1 hv; rfl
theorem splice_map {α β : Type} (f : α → β) (l : List α) (off : Nat) (k : List α) : splice (l.map f) off (k.map f) = (splice l off k).map f := by simp [splice]
theorem splice_all {α : Type} (l k : List α) (h : l.length = k.length) : splice l 0 k = k := by simp [splice, h]
theorem BlkB.rb {w : World} {g off n : Nat} {t : TypeId} {l k : List UInt8} (h : BlkB w g t l) (hk : (l.drop off).take n = k) (hn : off + n ≤ l.length) : RB w (some ⟨g, off, none⟩) n k := by
  refine ⟨by rw [← hk]; simp; omega, fun _ => ⟨g, off, rfl, h.lt, fun i hi => ?_⟩⟩
  rw [h.cell, ← hk]
  unfold byteAt
  have : off + i < l.length := by omega
  simp [List.getD_eq_getElem?_getD, hi, this, bv]
end Go.Proofs.YtpmkpckldnnigaaGreat
namespace Go.Proofs.YtpmkpckldnnigaaGreat
open Go.RowKit

structure Keep (F : Nat → Prop) (w w' : World) : Prop where
  os : w'.os = w.os
  tape : w'.tape = w.tape
  output : w'.output = w.output
  size : w.heap.size ≤ w'.heap.size
  block : ∀ k, k < w.heap.size → ¬ F k → w'.heap[k]? = w.heap[k]?
section
variable {F G : Nat → Prop} {w w' w'' : World} {B : Nat}
theorem Keep.refl (F : Nat → Prop) (w : World) : Keep F w w := ⟨rfl, rfl, rfl, Nat.le_refl _, fun _ _ _ => rfl⟩
theorem Keep.trans (h : Keep F w w') (k : Keep G w' w'') (hG : ∀ g, g < w.heap.size → G g → F g) : Keep F w w'' :=
  ⟨k.os.trans h.os, k.tape.trans h.tape, k.output.trans h.output, Nat.le_trans h.size k.size, fun g hg hn =>
    (k.block g (Nat.lt_of_lt_of_le hg h.size) (fun e => hn (hG g hg e))).trans (h.block g hg hn)⟩
theorem Keep.of_below (h : Below w.heap.size w w') : Keep F w w' := ⟨h.os, h.tape, h.output, h.size, fun k hk _ => h.block k hk⟩
theorem Keep.of_grown {row : Option Nat} (h : w.grownBy w' row) (hF : ∀ g, row = some g → F g) : Keep F w w' :=
  ⟨h.os, h.tape, h.output, h.size, fun k hk hn => h.block k hk (fun e => hn (hF k e.symm))⟩
theorem Keep.drewN (h : Keep F w w') (n : Nat) : Keep F w (w'.drewN n) := ⟨h.os, h.tape, h.output, h.size, h.block⟩
theorem Keep.set_ (k : Keep F w w') {g i : Nat} (u : Value) (hF : F g) : Keep F w (w'.setCell ⟨g, i, none⟩ u) :=
  k.trans (G := (· = g)) (Keep.of_grown (grown_setCell u) (fun x e => by injection e with e; exact e.symm)) (fun x _ e => by rw [e]; exact hF)
theorem Keep.one {g : Nat} (h : w.grownBy w' (some g)) : Keep (· = g) w w' := Keep.of_grown h (fun x e => by injection e with e; exact e.symm)
theorem Keep.alloc (k : Keep F w w') (o : Obj) : Keep F w (w'.alloc o) := k.trans (G := fun _ => False) (Keep.of_below ((Below.refl _ _).alloc (Nat.le_refl _) o)) (fun _ _ e => e.elim)
theorem Keep.below (h : Keep F w w') (hF : ∀ g, F g → B ≤ g) (hB : B ≤ w.heap.size) : Below B w w' :=
  ⟨h.os, h.tape, h.output, h.size, fun k hk => h.block k (by omega) (fun e => by have := hF k e; omega)⟩
theorem Keep.mono (h : Keep F w w') (hG : ∀ g, g < w.heap.size → F g → G g) : Keep G w w' := ⟨h.os, h.tape, h.output, h.size, fun k hk hn => h.block k hk (fun e => hn (hG k hk e))⟩
theorem Blk.keep {g : Nat} {t : TypeId} {cs : List Value} (h : Blk w g t cs) (k : Keep F w w') (hn : ¬ F g) : Blk w' g t cs := (k.block g h.lt hn).trans h
theorem own_ne {base : Nat} {e t : TypeId} {size n g : Nat} {v : Value} {xs cs : List Value} (h : w.ownsRow base e size v n xs) (hg : Blk w g t cs) (hne : e ≠ t) : v.ownBlock ≠ some g := by
  rcases h.2 with ⟨rfl, _⟩ | ⟨g', cap, cur, rfl, _, hh, _⟩
  · simp [Value.ownBlock]
  · intro he
    have e1 : g' = g := by simpa [Value.ownBlock] using he
    subst e1
    unfold Blk at hg
    rw [hh] at hg
    injection hg with hg
    injection hg with _ ht
    exact hne ht
theorem own_keep {base : Nat} {e : TypeId} {size n : Nat} {v : Value} {xs : List Value} (h : w.ownsRow base e size v n xs) (k : Keep F w w') (hn : ∀ g, v.ownBlock = some g → ¬ F g) : w'.ownsRow base e size v n xs := by
  refine ⟨h.1, ?_⟩
  rcases h.2 with h0 | ⟨g, cap, cur, hv, hb, hg, rest⟩
  · exact .inl h0
  · exact .inr ⟨g, cap, cur, hv, hb, (k.block g (lt_of_block hg) (hn g (by rw [hv]; rfl))).trans hg, rest⟩
end
section
variable {α : Type} {enc : α → Value} {w : World} {base n c g : Nat} {e t : TypeId} {A : Option Addr} {l : List α} {cs : List Value}
theorem Ow.ne_ (h : Ow enc w base e A n c l) (hg : Blk w g t cs) (hne : e ≠ t) : A.map (·.block) ≠ some g := fun e => own_ne h.2 hg hne (by cases A with | none => cases e | some a => simpa [Value.ownBlock] using e)
end
end Go.Proofs.YtpmkpckldnnigaaGreat
namespace Go.Proofs.YtpmkpckldnnigaaGreat
open Go.RowKit
section
variable {w w' : World} {g : Nat} {t : TypeId} {cs xs : List Value}
theorem Blk.range (h : Blk w g t cs) {o n : Nat} (hx : (cs.drop o).take n = xs) : w.rangeAt g o xs := by
  intro j v hv
  rw [h.cell, ← List.getElem?_drop]
  have hj : j < xs.length := by
    rcases Nat.lt_or_ge j xs.length with h1 | h1
    · exact h1
    · rw [List.getElem?_eq_none h1] at hv; cases hv
  have hn : j < n := by rw [← hx, List.length_take] at hj; omega
  rw [← hx, List.getElem?_take, if_pos hn] at hv
  exact hv
theorem Blk.there (h : Blk w g t cs) (off n : Nat) (hn : off + n ≤ cs.length) : w.there g off n := fun j hj => by
  rw [h.cell, List.getElem?_eq_getElem (by omega)]
  exact ⟨rfl, h.frozen _⟩
theorem Blk.setCellsFar {b : Nat} (hne : g ≠ b) : ∀ (xs : List Value) (o : Nat) (w : World), Blk w g t cs → Blk (w.setCells b o xs) g t cs := by
  intro xs
  induction xs with
  | nil => intro o w h; exact h
  | cons x xs ih => intro o w h; exact ih (o + 1) _ (h.far (p := ⟨b, o, none⟩) hne x)
theorem splice_cons {α : Type} (l : List α) (o : Nat) (x : α) (xs : List α) (h : o + xs.length + 1 ≤ l.length) : splice (l.set o x) (o + 1) xs = splice l o (x :: xs) := by
  unfold splice
  have ho : o < l.length := by omega
  rw [List.take_succ_eq_append_getElem (by rw [List.length_set]; exact ho), List.take_set_of_le (Nat.le_refl _), List.getElem_set_self, List.drop_set_of_lt (by omega)]
  simp [Nat.add_assoc, Nat.add_comm 1]
theorem Blk.setCells : ∀ (xs : List Value) (o : Nat) (w : World) (cs : List Value), Blk w g t cs → o + xs.length ≤ cs.length → Blk (w.setCells g o xs) g t (splice cs o xs) := by
  intro xs
  induction xs with
  | nil => intro o w cs h hl; have e : splice cs o ([] : List Value) = cs := by simp [splice]
           rw [e]; exact h
  | cons x xs ih =>
    intro o w cs h hl
    have h1 := ih (o + 1) _ _ (h.set_ o x) (by rw [List.length_set]; simp at hl; omega)
    rw [splice_cons _ _ _ _ (by simp at hl; omega)] at h1
    exact h1
theorem grown_setCells (g : Nat) : ∀ (xs : List Value) (o : Nat) (w : World), w.grownBy (w.setCells g o xs) (some g) := by
  intro xs
  induction xs with
  | nil => intro o w; exact World.grownBy.refl _ _
  | cons x xs ih =>
    intro o w
    have h1 := grown_setCell (w := w) (g := g) (k := o) x
    have h2 := ih (o + 1) (w.setCell ⟨g, o, none⟩ x)
    exact ⟨h2.os.trans h1.os, h2.tape.trans h1.tape, h2.output.trans h1.output, Nat.le_trans h1.size h2.size, fun k hk hn => (h2.block k (Nat.lt_of_lt_of_le hk h1.size) hn).trans (h1.block k hk hn)⟩
theorem Keep.drewD {F : Nat → Prop} (h : Keep F w w') : Keep F w w'.drew := ⟨h.os, h.tape, h.output, h.size, h.block⟩
theorem Keep.setCells {F : Nat → Prop} (k : Keep F w w') (hF : F g) (o : Nat) (xs : List Value) : Keep F w (w'.setCells g o xs) :=
  k.trans (G := (· = g)) (Keep.one (grown_setCells g xs o w')) (fun x _ e => by rw [e]; exact hF)
end
end Go.Proofs.YtpmkpckldnnigaaGreat
namespace Go.Proofs.YtpmkpckldnnigaaGreat
open Go.RowKit

section
variable {α : Type} {size : Nat} {enc : α → List Value} {w w' : World} {A : Option Addr} {n c base : Nat} {e : TypeId} {l : List α}
theorem flat_len (henc : ∀ x, (enc x).length = size) (l : List α) : (l.flatMap enc).length = l.length * size := by
  induction l with
  | nil => simp
  | cons x l ih => rw [List.flatMap_cons, List.length_append, ih, henc, List.length_cons, Nat.succ_mul, Nat.add_comm]
theorem flat_at (henc : ∀ x, (enc x).length = size) {j : Nat} (hj : j < size) : ∀ (l : List α) (k : Nat) (x : α), l[k]? = some x → (l.flatMap enc)[k * size + j]? = (enc x)[j]? := by
  intro l
  induction l with
  | nil => intro k x h; simp at h
  | cons y l ih =>
    intro k x h
    rw [List.flatMap_cons]
    cases k with
    | zero =>
      simp only [List.getElem?_cons_zero, Option.some.injEq] at h
      subst h
      rw [Nat.zero_mul, Nat.zero_add, List.getElem?_append_left (by rw [henc]; exact hj)]
    | succ k =>
      simp only [List.getElem?_cons_succ] at h
      rw [List.getElem?_append_right (by rw [henc, Nat.succ_mul]; omega), henc, show (k + 1) * size + j - size = k * size + j from by rw [Nat.succ_mul]; omega]
      exact ih k x h
/-- A slice whose elements have several cells reads as a list; an own one. -/
def RdS (size : Nat) (enc : α → List Value) (w : World) (A : Option Addr) (n : Nat) (l : List α) : Prop := l.length = n ∧ RowL w A n size (l.flatMap enc)
def OwS (size : Nat) (enc : α → List Value) (w : World) (base : Nat) (e : TypeId) (A : Option Addr) (n c : Nat) (l : List α) : Prop := l.length = n ∧ w.ownsRow base e size (.slice A n c) n (l.flatMap enc)
theorem RdS.at_ (h : RdS size enc w A n l) (henc : ∀ x, (enc x).length = size) (h0 : 0 < size) {k : Nat} (hk : k < n) : ∃ b o x, A = some ⟨b, o, none⟩ ∧ b < w.heap.size ∧ l[k]? = some x ∧ ∀ j, j < size → w.cell? ⟨b, o + k * size + j, none⟩ = (enc x)[j]? := by
  have hk' : k < l.length := by rw [h.1]; exact hk
  have hlt : k * size + size ≤ n * size := by rw [← Nat.succ_mul]; exact Nat.mul_le_mul_right _ hk
  obtain ⟨b, o, hA, hb, hc⟩ := h.2.2 (by omega)
  refine ⟨b, o, l[k], hA, hb, List.getElem?_eq_getElem hk', fun j hj => ?_⟩
  have := hc (k * size + j) (by omega)
  rw [Nat.add_assoc, this]
  show some ((l.flatMap enc).getD (k * size + j) undef) = _
  rw [List.getD_eq_getElem?_getD, flat_at henc hj l k _ (List.getElem?_eq_getElem hk')]
  have : j < (enc l[k]).length := by rw [henc]; exact hj
  simp [List.getElem?_eq_getElem this]
theorem RowL.below {b : Nat} {xs : List Value} (h : RowL w A n size xs) (hb : Below b w w') (hB : w.heap.size ≤ b) : RowL w' A n size xs := ⟨h.1, h.2.below hb hB⟩
theorem RdS.below {b : Nat} (h : RdS size enc w A n l) (hb : Below b w w') (hB : w.heap.size ≤ b) : RdS size enc w' A n l := ⟨h.1, h.2.below hb hB⟩
theorem RowL.of_own {xs : List Value} (h : w.ownsRow base e size (.slice A n c) n xs) : RowL w A n size xs := by
  refine ⟨h.1, fun hn => ?_⟩
  rcases h.2 with ⟨hv, h0⟩ | ⟨g, cap, cur, hv, hb, hg, hnc, hm, hs, ht⟩
  · rw [h0, Nat.zero_mul] at hn; omega
  · injection hv with hv _ _
    subst hv
    have hle : n * size ≤ cap * size := Nat.mul_le_mul_right _ hnc
    refine ⟨g, 0, rfl, lt_of_block hg, fun i hi => ?_⟩
    rw [Nat.zero_add, cell_of_row w g i cur e (0, 0) hg, ← ht]
    have hi' : i < cur.size := by omega
    show _ = some ((List.take (n * size) cur.toList).getD i undef)
    rw [List.getD_eq_getElem?_getD, List.getElem?_take, if_pos hi]
    simp [hi']
theorem OwS.rd (h : OwS size enc w base e A n c l) : RdS size enc w A n l := ⟨h.1, RowL.of_own h.2⟩
theorem OwS.below {b : Nat} (h : OwS size enc w base e A n c l) (hb : Below b w w') (hB : w.heap.size ≤ b) : OwS size enc w' base e A n c l := by
  refine ⟨h.1, h.2.1, ?_⟩
  rcases h.2.2 with hn | ⟨g, cap, cur, hv, hbg, hg, rest⟩
  · exact .inl hn
  · exact .inr ⟨g, cap, cur, hv, hbg, by rw [hb.block g (Nat.lt_of_lt_of_le (lt_of_block hg) hB)]; exact hg, rest⟩
theorem OwS.rebase {base' : Nat} (h : OwS size enc w base e A n c l) (hb : base' ≤ base) : OwS size enc w base' e A n c l := by
  refine ⟨h.1, h.2.1, ?_⟩
  rcases h.2.2 with hn | ⟨g, cap, cur, hv, hbg, rest⟩
  · exact .inl hn
  · exact .inr ⟨g, cap, cur, hv, Nat.le_trans hb hbg, rest⟩
theorem OwS.nil (size : Nat) (enc : α → List Value) (w : World) (base : Nat) (e : TypeId) : OwS size enc w base e none 0 0 [] := ⟨rfl, World.ownsRow_nil w base e size⟩
theorem OwS.cap (h : OwS size enc w base e A n c l) : n ≤ c ∧ c ≤ maxLen := by
  obtain ⟨A', c', e', h1, h2, _⟩ := own_slice h.2
  injection e' with _ _ e'
  subst e'
  exact ⟨h1, h2⟩
theorem OwS.ne_ {g : Nat} {t : TypeId} {cs : List Value} (h : OwS size enc w base e A n c l) (hg : Blk w g t cs) (hne : e ≠ t) : A.map (·.block) ≠ some g := fun e => own_ne h.2 hg hne (by cases A with | none => cases e | some a => simpa [Value.ownBlock] using e)
theorem RdS.of_block {g : Nat} {cs : Array Value} {t : TypeId} {fr : Nat × Nat} (hg : w.heap[g]? = some (.cells cs t fr)) (henc : ∀ x, (enc x).length = size) {l : List α} (h : cs.toList = l.flatMap enc) : RdS size enc w (some ⟨g, 0, none⟩) l.length l :=
  ⟨rfl, flat_len henc l, Row.of_block hg 0 fun i hi => by
    rw [Nat.zero_add, ← Array.getElem?_toList, h, List.getD_eq_getElem?_getD, List.getElem?_eq_getElem (by rw [flat_len henc]; exact hi)]; rfl⟩

end
end Go.Proofs.YtpmkpckldnnigaaGreat
namespace Go.Proofs.YtpmkpckldnnigaaGreat
open Go.RowKit

end Go.Proofs.YtpmkpckldnnigaaGreat
