/- Blocks that are known whole; whole arrays loaded and stored. -/
import Derived.Test.YtninidpbchcliaaMem
import Derived.Laws.CopyRow
import Derived.Laws.CopyOwn
import Derived.Laws.Rows
import Derived.Deep.Draws
import Derived.ChangeKeysEq
import Derived.Laws.StructEq
namespace Go.Proofs.Ytninidpbchcliaa
open Go.RowKit

def Blk (w : World) (g : Nat) (t : TypeId) (cs : List Value) : Prop := w.heap[g]? = some (.cells cs.toArray t (0, 0))
section
variable {w w' : World} {g : Nat} {t : TypeId} {cs : List Value}
theorem Blk.lt (h : Blk w g t cs) : g < w.heap.size := lt_of_block h
theorem Blk.cell (h : Blk w g t cs) (i : Nat) : w.cell? ⟨g, i, none⟩ = cs[i]? := by
  rw [cell_of_row w g i cs.toArray t (0, 0) h]; simp
theorem Blk.frozen (h : Blk w g t cs) (i : Nat) : w.frozen? ⟨g, i, none⟩ = false := frozen_of_row w g i cs.toArray t h
theorem Blk.new (w : World) (t : TypeId) (cs : List Value) : Blk (w.alloc (.cells cs.toArray t)) w.heap.size t cs := heap_alloc_new w _
theorem Blk.top {cs' : Array Value} (w : World) (hg : g = w.heap.size) (h : cs' = cs.toArray) : Blk (w.alloc (.cells cs' t)) g t cs := by subst hg h; exact heap_alloc_new w _
theorem Blk.drew (h : Blk w g t cs) : Blk w.drew g t cs := h
theorem Blk.drewN (h : Blk w g t cs) (n : Nat) : Blk (w.drewN n) g t cs := h
theorem Blk.alloc (h : Blk w g t cs) (o : Obj) : Blk (w.alloc o) g t cs := (Below.heap_alloc w o g h.lt).trans h
theorem Blk.set_ (h : Blk w g t cs) (i : Nat) (u : Value) : Blk (w.setCell ⟨g, i, none⟩ u) g t (cs.set i u) := by
  unfold Blk at h ⊢
  simp [World.setCell, Array.getElem?_modify, h]
theorem Blk.far (h : Blk w g t cs) {p : Addr} (hp : g ≠ p.block) (u : Value) : Blk (w.setCell p u) g t cs := (Below.heap_setCell w p u g hp).trans h
theorem Blk.below {B : Nat} (h : Blk w g t cs) (hb : Below B w w') (hg : g < B) : Blk w' g t cs := (hb.block g hg).trans h
theorem Blk.grown {row : Option Nat} (h : Blk w g t cs) (hb : w.grownBy w' row) (hg : row ≠ some g) : Blk w' g t cs := (hb.block g h.lt (fun e => hg e.symm)).trans h
theorem Blk.ne_ {g' : Nat} {t' : TypeId} {cs' : List Value} (h : Blk w g t cs) (h' : Blk w g' t' cs') (hne : t ≠ t') : g ≠ g' := by
  rintro rfl
  unfold Blk at h h'
  rw [h] at h'
  injection h' with h'
  injection h' with _ ht
  exact hne ht
theorem Blk.inj {t' : TypeId} {cs' : List Value} (h : Blk w g t cs) (h' : Blk w g t' cs') : cs = cs' := by
  unfold Blk at h h'
  rw [h] at h'
  injection h' with h'
  injection h' with h1 _
  simpa using h1
theorem Blk.setRow (h : Blk w g t cs) (cs' : List Value) : Blk (w.setRow g cs'.toArray) g t cs' := setRow_heap w g _ _ t _ h
end

theorem grown_setCell {w : World} {g k : Nat} (u : Value) : w.grownBy (w.setCell ⟨g, k, none⟩ u) (some g) :=
  ⟨rfl, rfl, rfl, by simp [World.setCell], fun i _ hi => Below.heap_setCell w _ u i (fun e => hi (by rw [e]))⟩

theorem grown_setRow {w : World} {g : Nat} (cs : Array Value) : w.grownBy (w.setRow g cs) (some g) :=
  ⟨rfl, rfl, rfl, by simp [World.setRow], fun i _ hi => setRow_other w g i cs (fun e => hi (by rw [e]))⟩
theorem below_of_only {B g : Nat} {a w w' : World} (h : Below B a w) (hg : w.grownBy w' (some g)) (hB : B ≤ w.heap.size) (h2 : B ≤ g) : Below B a w' :=
  h.grown hg hB (fun k hk => by injection hk with hk; omega)

section
variable {P : Program} {w : World}
/-- A whole array out of cells side by side. -/
theorem run_load_arr {g off n : Nat} {t ty e : TypeId} {cs xs : List Value} (hb : Blk w g t cs) (hu : P.underlying ty = some (.array n e)) (hi : (P.info? ty).map (·.size) = some n)
    (hx : xs.length = n) (hat : (cs.drop off).take n = xs) : (loadVar ty ⟨g, off, none⟩).run P w = .ok (.agg xs.toArray) w := by
  have hl : (loadCells ⟨g, off, none⟩ xs.length).run P w = .ok xs.toArray w :=
    run_loadCells_list (P := P) w ⟨g, off, none⟩ xs (fun j v hv => by
      have hadd : (⟨g, off, none⟩ : Addr).add j = ⟨g, off + j, none⟩ := by unfold Addr.add; split <;> simp_all
      have hj : j < xs.length := by
        rcases Nat.lt_or_ge j xs.length with h | h
        · exact h
        · rw [List.getElem?_eq_none h] at hv; cases hv
      rw [hadd, hb.cell, ← List.getElem?_drop]
      rw [← hat, List.getElem?_take, if_pos (by omega)] at hv
      exact hv)
  rw [hx] at hl
  cases hq : P.info? ty with
  | none => simp [hq] at hi
  | some i =>
    have hs : i.size = n := by simpa [hq] using hi
    have hagg : (isAgg ty).run P w = .ok true w := by
      unfold isAgg
      rw [Sem.run_bind, run_underlying hu w]
      rfl
    simp [loadVar, Sem.run_bind, hagg, sizeOf, typeInfo, hq, hs, hl]

/-- A whole array into cells side by side. -/
theorem run_store_arr {g off n : Nat} {t ty : TypeId} {cs xs : List Value} (hb : Blk w g t cs) (hi : (P.info? ty).map (·.size) = some n)
    (hx : xs.length = n) (hfit : off + n ≤ cs.length) (h1 : ∀ v ∈ xs, v.oneCell' = true) : (storeVar ty ⟨g, off, none⟩ (.agg xs.toArray)).run P w = .ok () (w.setRow g (splice cs off xs).toArray) := by
  have hr := run_storeCells_at P g off t xs 0 cs.toArray w hb (by simp; omega) h1
  cases hq : P.info? ty with
  | none => simp [hq] at hi
  | some i =>
    have hs : i.size = n := by simpa [hq] using hi
    simp [storeVar, sizeOf, typeInfo, hq, Value.cells, hx, hs]
    simpa [splice, List.append_assoc] using hr

variable {ops : Array Oper} {rest : List Oper} {o : Oper} {a : Act} {Q : Exit → Act → World → Prop} {K : Act → World → Prop}
theorem wp_load_arr {ty : TypeId} {x : Operand} (ho : o.op = .load ty x) {g off n : Nat} (hx : a.eval x = .pointer (some ⟨g, off, none⟩)) {t e : TypeId} {cs xs : List Value} (hb : Blk w g t cs)
    (hu : P.underlying ty = some (.array n e)) (hi : (P.info? ty).map (·.size) = some n) (hl : xs.length = n) (hat : (cs.drop off).take n = xs)
    (h : K (a.put o.dst (.agg xs.toArray)) w) : o.wp P a w K Q := by
  unfold Oper.wp execOp
  simp only [ho, hx, Instr.loadAt, Instr.sureAddr, Sem.run_bind, Sem.run_pure, Result.andThen_ok, run_load_arr hb hu hi hl hat]
  exact h
theorem wpList_load_arr (hgd : Region.wanted o (yielded ops a.tmps) = true) {ty : TypeId} {x : Operand} (ho : o.op = .load ty x) {g off n : Nat} (hx : a.eval x = .pointer (some ⟨g, off, none⟩)) {t e : TypeId} {cs xs : List Value} (hb : Blk w g t cs)
    (hu : P.underlying ty = some (.array n e)) (hi : (P.info? ty).map (·.size) = some n) (hl : xs.length = n) (hat : (cs.drop off).take n = xs)
    (h : wpList P ops Q rest (a.put o.dst (.agg xs.toArray)) w) : wpList P ops Q (o :: rest) a w :=
  wpList_step fun _ hK => by rw [if_pos hgd]; exact wp_load_arr ho hx hb hu hi hl hat (hK _ _ h)
theorem wp_store_arr {ty : TypeId} {x y : Operand} (ho : o.op = .store ty x y) {g off n : Nat} (hx : a.eval x = .pointer (some ⟨g, off, none⟩)) {t : TypeId} {cs xs : List Value} (hy : a.eval y = .agg xs.toArray) (hb : Blk w g t cs)
    (hi : (P.info? ty).map (·.size) = some n) (hl : xs.length = n) (hfit : off + n ≤ cs.length) (h1 : ∀ v ∈ xs, v.oneCell' = true)
    (h : ∀ w', Blk w' g t (splice cs off xs) → w.grownBy w' (some g) → w'.heap.size = w.heap.size → K (a.put o.dst (.tuple #[])) w') : o.wp P a w K Q := by
  unfold Oper.wp execOp
  simp only [ho, hx, hy, Instr.storeAt, Instr.sureAddr, Sem.run_bind, Sem.run_pure, Result.andThen_ok, run_store_arr hb hi hl hfit h1]
  exact h _ (hb.setRow _) (grown_setRow _) (by simp)
theorem wpList_store_arr (hgd : o.guard = none) {ty : TypeId} {x y : Operand} (ho : o.op = .store ty x y) {g off n : Nat} (hx : a.eval x = .pointer (some ⟨g, off, none⟩)) {t : TypeId} {cs xs : List Value} (hy : a.eval y = .agg xs.toArray) (hb : Blk w g t cs)
    (hi : (P.info? ty).map (·.size) = some n) (hl : xs.length = n) (hfit : off + n ≤ cs.length) (h1 : ∀ v ∈ xs, v.oneCell' = true)
    (h : ∀ w', Blk w' g t (splice cs off xs) → w.grownBy w' (some g) → w'.heap.size = w.heap.size → wpList P ops Q rest (a.put o.dst (.tuple #[])) w') : wpList P ops Q (o :: rest) a w :=
  wpList_plain hgd fun _ hK => wp_store_arr ho hx hy hb hi hl hfit h1 fun w' h2 h3 h4 => hK _ _ (h w' h2 h3 h4)
end

theorem results_arr_tmp {P : Program} {w : World} {fn : Func} {p q : Tmp} {ty : TypeId} (h : fn.results = #[.cell p ty, .tmp q]) (tmps : Array Value) {g n : Nat} {t e : TypeId} {cs : List Value} {v : Value}
    (hp : tmps.getD p undef = .pointer (some ⟨g, 0, none⟩)) (hq : tmps.getD q undef = v) (hb : Blk w g t cs) (hu : P.underlying ty = some (.array n e)) (hi : (P.info? ty).map (·.size) = some n) (hl : cs.length = n) :
    (results fn tmps).run P w = .ok (.tuple #[.agg cs.toArray, v]) w := by
  have hp' : tmps[p]?.getD undef = .pointer (some ⟨g, 0, none⟩) := by simpa using hp
  have hq' : tmps[q]?.getD undef = v := by simpa using hq
  simp [results, h, hp', hq', asAddr, run_load_arr hb hu hi hl (by rw [List.drop_zero, List.take_of_length_le (by omega)])]

section
variable {α : Type} {enc : α → Value}
/-- 'copy' into a block that is known whole, of a slice that reads as a list. -/
theorem run_copy_rd {P : Program} {w : World} {dT sT ty e : TypeId} {z : Value} {bytes g off dLen dCap n c : Nat} {dp A : Option Addr} {t : TypeId} {l k : List α} (hE : ElemOf P dT e z 1 bytes) (hone : ∀ x, (enc x).oneCell' = true)
    (hdp : 0 < dLen → dp = some ⟨g, off, none⟩) (hg : Blk w g t (l.map enc)) (hr : Rd enc w A n k) (hfit : off + min n dLen ≤ l.length) :
    ∃ w', (Builtin.copy_ #[dT, sT] ty #[.slice dp dLen dCap, .slice A n c]).run P w = .ok (goInt ((min n dLen : Nat) : Int)) w' ∧ Blk w' g t ((splice l off (k.take dLen)).map enc) ∧ w.grownBy w' (some g) ∧ w'.heap.size = w.heap.size := by
  obtain ⟨ht, ⟨i, hi, _, hs, _⟩, _⟩ := hE
  have hsz : (P.info? e).map (·.size) = some 1 := by rw [hi]; simp [hs]
  have hlen : (k.take dLen).length = min n dLen := by rw [List.length_take, hr.1, Nat.min_comm]
  by_cases h0 : min n dLen = 0
  · refine ⟨w, ?_, ?_, World.grownBy.refl w _, rfl⟩
    · rw [run_copy_none w dT sT ty e dp A dLen dCap n c ht hsz h0, h0]; rfl
    · rw [List.eq_nil_of_length_eq_zero (hlen.trans h0)]
      simpa [splice] using hg
  · have hd0 : 0 < dLen := by omega
    obtain ⟨b, o, hA, hb, hc⟩ := hr.2 (by omega)
    rw [hdp hd0, hA]
    have hsrc : ∀ j v, ((k.take dLen).map enc)[j]? = some v → w.cell? ((⟨b, o, none⟩ : Addr).add j) = some v := by
      intro j v hv
      have hj : j < (k.take dLen).length := by
        rcases Nat.lt_or_ge j (k.take dLen).length with h | h
        · exact h
        · rw [List.getElem?_eq_none (by simpa using h)] at hv; cases hv
      have hadd : (⟨b, o, none⟩ : Addr).add j = ⟨b, o + j, none⟩ := by unfold Addr.add; split <;> simp_all
      have := hc j (by omega)
      have hjk : j < k.length := by rw [hr.1]; omega
      rw [hadd, this, ← hv]
      show some ((k.map enc).getD j undef) = _
      rw [getD_map k j hjk]
      simp [List.getElem?_take, hjk]
      omega
    have hrun := run_copy_row P w dT sT ty e g off dLen dCap ⟨b, o, none⟩ n c (l.map enc).toArray t ((k.take dLen).map enc) ht hsz hg (by rw [List.length_map, hlen]) hsrc (by rw [List.length_map, hlen]; simpa using hfit) (by
      intro u hu; obtain ⟨y, _, rfl⟩ := List.mem_map.1 hu; exact hone y)
    refine ⟨w.setRow g ((l.map enc).take off ++ (k.take dLen).map enc ++ (l.map enc).drop (off + ((k.take dLen).map enc).length)).toArray, ?_, ?_, grown_setRow _, by simp⟩
    · rw [hrun, List.length_map, hlen]
    · have := hg.setRow ((l.map enc).take off ++ (k.take dLen).map enc ++ (l.map enc).drop (off + ((k.take dLen).map enc).length))
      simpa [splice] using this
theorem wp_copy_rd {P : Program} {w : World} {o : Oper} {a : Act} {K : Act → World → Prop} {Q : Exit → Act → World → Prop} {d s : Operand} {dT sT e : TypeId} {z : Value} {bytes g off dLen dCap n c : Nat} {dp A : Option Addr} {t : TypeId} {l k L : List α}
    (ho : o.op = .call { callee := .builtin .copy, args := #[d, s], argTypes := #[dT, sT] }) (hE : ElemOf P dT e z 1 bytes) (hone : ∀ x, (enc x).oneCell' = true)
    (hd : a.eval d = .slice dp dLen dCap) (hs : a.eval s = .slice A n c)
    (hdp : 0 < dLen → dp = some ⟨g, off, none⟩) (hg : Blk w g t (l.map enc)) (hr : Rd enc w A n k) (hfit : off + min n dLen ≤ l.length) (hL : splice l off (k.take dLen) = L)
    (h : ∀ w', Blk w' g t (L.map enc) → w.grownBy w' (some g) → w'.heap.size = w.heap.size → K (a.put o.dst (.int .i64 ((min n dLen : Nat) : Int))) w') : o.wp P a w K Q := by
  obtain ⟨w', hrun, h1, h2, h3⟩ := run_copy_rd (P := P) (dT := dT) (sT := sT) (ty := o.type) (dCap := dCap) (c := c) hE hone hdp hg hr hfit
  unfold Oper.wp
  simp [execOp, ho, resolve, invoke, builtin, hd, hs, hrun, Result.andThen]
  rw [hL] at h1
  exact h w' h1 h2 h3
theorem wpList_copy_rd {P : Program} {w : World} {ops : Array Oper} {rest : List Oper} {o : Oper} {a : Act} {Q : Exit → Act → World → Prop} {d s : Operand} {dT sT e : TypeId} {z : Value} {bytes g off dLen dCap n c : Nat} {dp A : Option Addr} {t : TypeId} {l k L : List α} (hgd : o.guard = none)
    (ho : o.op = .call { callee := .builtin .copy, args := #[d, s], argTypes := #[dT, sT] }) (hE : ElemOf P dT e z 1 bytes) (hone : ∀ x, (enc x).oneCell' = true)
    (hd : a.eval d = .slice dp dLen dCap) (hs : a.eval s = .slice A n c)
    (hdp : 0 < dLen → dp = some ⟨g, off, none⟩) (hg : Blk w g t (l.map enc)) (hr : Rd enc w A n k) (hfit : off + min n dLen ≤ l.length) (hL : splice l off (k.take dLen) = L)
    (h : ∀ w', Blk w' g t (L.map enc) → w.grownBy w' (some g) → w'.heap.size = w.heap.size → wpList P ops Q rest (a.put o.dst (.int .i64 ((min n dLen : Nat) : Int))) w') : wpList P ops Q (o :: rest) a w :=
  wpList_plain hgd fun _ hK => wp_copy_rd ho hE hone hd hs hdp hg hr hfit hL fun w' h1 h2 h3 => hK _ _ (h w' h1 h2 h3)
theorem step_copy_rd {P : Program} {w : World} {ops : Array Oper} {o : Oper} {a : Act} {K : Act → World → Prop} {Q : Exit → Act → World → Prop} {E : Prop} {d s : Operand} {dT sT e : TypeId} {z : Value} {bytes g off dLen dCap n c : Nat} {dp A : Option Addr} {t : TypeId} {l k L : List α} (hgd : o.guard = none)
    (ho : o.op = .call { callee := .builtin .copy, args := #[d, s], argTypes := #[dT, sT] }) (hE : ElemOf P dT e z 1 bytes) (hone : ∀ x, (enc x).oneCell' = true)
    (hd : a.eval d = .slice dp dLen dCap) (hs : a.eval s = .slice A n c)
    (hdp : 0 < dLen → dp = some ⟨g, off, none⟩) (hg : Blk w g t (l.map enc)) (hr : Rd enc w A n k) (hfit : off + min n dLen ≤ l.length) (hL : splice l off (k.take dLen) = L)
    (h : ∀ w', Blk w' g t (L.map enc) → w.grownBy w' (some g) → w'.heap.size = w.heap.size → K (a.put o.dst (.int .i64 ((min n dLen : Nat) : Int))) w') :
    if Region.wanted o (yielded ops a.tmps) = true then Oper.wp P o a w K Q else E := by
  have hw : Region.wanted o (yielded ops a.tmps) = true := by simp [Region.wanted, hgd]
  rw [if_pos hw]
  exact wp_copy_rd ho hE hone hd hs hdp hg hr hfit hL h
end

theorem Rd.drew' {α : Type} {enc : α → Value} {w : World} {A : Option Addr} {n : Nat} {l : List α} (h : Rd enc w A n l) : Rd enc w.drew A n l := h
theorem Rd.drewN' {α : Type} {enc : α → Value} {w : World} {A : Option Addr} {n : Nat} {l : List α} (h : Rd enc w A n l) (k : Nat) : Rd enc (w.drewN k) A n l := h
/-- The world by what is known of it. -/
theorem code_world {P : Program} {C : Code} {Q : Exit → Act → World → Prop} {a : Act} {w : World} (F : World → Prop) (hF : F w) (h : ∀ w', F w' → C.wp P Q a w') : C.wp P Q a w := h w hF
theorem list_world {P : Program} {ops : Array Oper} {rest : List Oper} {Q : Exit → Act → World → Prop} {a : Act} {w : World} (F : World → Prop) (hF : F w) (h : ∀ w', F w' → wpList P ops Q rest a w') : wpList P ops Q rest a w := h w hF

/-- A block of bytes. -/
abbrev BlkB (w : World) (g : Nat) (t : TypeId) (l : List UInt8) : Prop := Blk w g t (l.map bv)
def aggB (l : List UInt8) : Value := .agg (l.map bv).toArray
theorem mem_bv {l : List UInt8} : ∀ v ∈ l.map bv, v.oneCell' = true := by
  intro v hv; obtain ⟨x, _, rfl⟩ := List.mem_map.1 hv; rfl
theorem splice_map {α β : Type} (f : α → β) (l : List α) (off : Nat) (k : List α) : splice (l.map f) off (k.map f) = (splice l off k).map f := by simp [splice]
theorem splice_all {α : Type} (l k : List α) (h : l.length = k.length) : splice l 0 k = k := by simp [splice, h]
theorem BlkB.rb {w : World} {g off n : Nat} {t : TypeId} {l k : List UInt8} (h : BlkB w g t l) (hk : (l.drop off).take n = k) (hn : off + n ≤ l.length) : RB w (some ⟨g, off, none⟩) n k := by
  refine ⟨by rw [← hk]; simp; omega, fun _ => ⟨g, off, rfl, h.lt, fun i hi => ?_⟩⟩
  rw [h.cell, ← hk]
  unfold byteAt
  have : off + i < l.length := by omega
  simp [List.getD_eq_getElem?_getD, hi, this, bv]
theorem BlkB.cellB {w : World} {g : Nat} {t : TypeId} {l : List UInt8} (h : BlkB w g t l) (i : Nat) (hi : i < l.length) : w.cell? ⟨g, i, none⟩ = some (.int .u8 (byteAt l i)) := by
  rw [h.cell]; unfold byteAt; simp [List.getD_eq_getElem?_getD, hi, bv]
theorem BlkB.setB {w : World} {g : Nat} {t : TypeId} {l : List UInt8} (h : BlkB w g t l) (i : Nat) (x : UInt8) (u : Value) (hu : u = bv x) : BlkB (w.setCell ⟨g, i, none⟩ u) g t (l.set i x) := by
  subst hu; unfold BlkB; rw [List.map_set]; exact h.set_ i _

/-- '==' of two arrays of bytes. -/
theorem run_eqItems_bytes {P : Program} {w : World} {e : TypeId} (he : P.underlying e = some (.int .u8)) (hk : P.plainKey e = true) (d : Nat) (l k : List UInt8) (hlk : l.length = k.length) :
    ∀ m j, j + m = l.length → (Op.eqItems (d + 1) e 1 (l.map bv).toArray (k.map bv).toArray (List.range' j m)).run P w = .ok (decide (l.drop j = k.drop j)) w := by
  intro m
  induction m with
  | zero =>
    intro j hj
    have e1 : l.drop j = [] := List.drop_of_length_le (by omega)
    have e2 : k.drop j = [] := List.drop_of_length_le (by omega)
    simp [Op.eqItems, e1, e2]
  | succ m ih =>
    intro j hj
    have h1 : (l.map bv).toArray[j]? = some (bv (l[j]'(by omega))) := by simp [List.getElem?_eq_getElem (show j < l.length from by omega)]
    have h2 : (k.map bv).toArray[j]? = some (bv (k[j]'(by omega))) := by simp [List.getElem?_eq_getElem (show j < k.length from by omega)]
    rw [List.range'_succ]
    have h3 : (Op.equalIn (d + 1) e (bv l[j]) (bv k[j])).run P w = .ok (((l[j].toNat : Nat) : Int) == ((k[j].toNat : Nat) : Int)) w := run_equalIn_int w d e .u8 .u8 _ _ he
    simp only [Op.eqItems, Nat.mul_one, Sem.run_bind, run_part_plain w hk h1, run_part_plain w hk h2, Result.andThen_ok, h3]
    rw [List.drop_eq_getElem_cons (show j < l.length from by omega), List.drop_eq_getElem_cons (show j < k.length from by omega)]
    by_cases hx : l[j] = k[j]
    · have := ih (j + 1) (by omega)
      simp only [hx, beq_self_eq_true, Bool.not_true, Bool.false_eq_true, if_false, this, List.cons.injEq, true_and]
    · have hne : ((((l[j]).toNat : Nat) : Int) == (((k[j]).toNat : Nat) : Int)) = false := by
        rw [beq_eq_false_iff_ne]
        intro h
        exact hx (UInt8.toNat_inj.1 (by omega))
      simp only [hne, Bool.not_false, if_true, Sem.run_pure, List.cons.injEq, hx, false_and, decide_false]
theorem run_eq_bytes {P : Program} {w : World} {t e : TypeId} {n : Nat} (hu : P.underlying t = some (.array n e)) (he : P.underlying e = some (.int .u8)) (hk : P.plainKey e = true) (hc : P.cellsOf e = 1) (hi : (P.info? e).isSome = true)
    (l k : List UInt8) (hl : l.length = n) (hlk : k.length = n) : (Op.equalIn 10000 t (.agg (l.map bv).toArray) (.agg (k.map bv).toArray)).run P w = .ok (decide (l = k)) w := by
  obtain ⟨i, hi⟩ := Option.isSome_iff_exists.1 hi
  rw [show 10000 = 9999 + 1 from rfl, run_equalIn_array w 9999 _ _ hu hi, hc, List.range_eq_range', show 9999 = 9998 + 1 from rfl, run_eqItems_bytes he hk 9998 l k (by omega) n 0 (by omega)]
  simp
/-- 'a[lo:hi:hi]' of an array of one-cell elements, not empty. -/
theorem run_slice3 {P : Program} {t e : TypeId} {n : Nat} (hu : P.underlying t = some (.array n e)) (hs : (P.info? e).map (·.size) = some 1) (g : Nat) (lo hi : Int) (L m : Nat) (hL : lo = (L : Int)) (hh : hi = ((L + m : Nat) : Int)) (hm : 0 < m) (hn : L + m ≤ n) (W : World) :
    (Instr.sliceAt t (.pointer (some ⟨g, 0, none⟩)) (some (.int .i64 lo)) (some (.int .i64 hi)) (some (.int .i64 hi))).run P W = .ok (.slice (some ⟨g, L, none⟩) m m) W := by
  have e1 : P.arrayLen t = n := by unfold Program.arrayLen; rw [hu]
  have e2 : P.elem t = e := by unfold Program.elem; rw [hu]
  cases hq : P.info? e with
  | none => simp [hq] at hs
  | some i =>
    have hsz : i.size = 1 := by simpa [hq] using hs
    subst hL hh
    rw [run_sliceAt_array_lhm W t ⟨g, 0, none⟩ (by rw [e1, e2]; exact hu) .i64 .i64 .i64 _ _ _ (by omega) (by omega) (by omega) (by rw [e1]; omega), e2]
    have h3 : ¬ (L + m = L) := by omega
    have hadd : (⟨g, 0, none⟩ : Addr).add L = ⟨g, L, none⟩ := by unfold Addr.add; split <;> simp_all
    have hso : (sizeOf e).run P W = .ok 1 W := by simp [sizeOf, typeInfo, hq, hsz]
    rw [hso]
    simp only [Result.andThen_ok, slicedAt, Int.toNat_natCast, Nat.mul_one, h3, if_false, Nat.add_sub_cancel_left, hadd]
end Go.Proofs.Ytninidpbchcliaa
