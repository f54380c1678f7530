/- Laws of append, make and copy in the words of this family ('Row', 'ownsRow'). -/
import Derived.Test.YtninidpbchcliaaBase
import Derived.Maps.AppendAt
import Derived.Deep.AppendLies
import Derived.OwnWalk
import Derived.Laws.CopyOwn
namespace Go.Proofs.Ytninidpbchcliaa
open Go.RowKit

/-- What the table of types says of a slice type and its elements. -/
def ElemOf (P : Program) (t e : TypeId) (z : Value) (size bytes : Nat) : Prop :=
  P.underlying t = some (.slice e) ∧ (∃ i, P.info? e = some i ∧ i.zero = some z ∧ i.size = size ∧ i.bytes = bytes) ∧ z.cells.size = size ∧ 0 < size

theorem ElemOf.mk' {P : Program} {t e : TypeId} {z : Value} {size bytes : Nat} (h : P.underlying t = some (.slice e))
    (hi : (P.info? e).map (fun i => (i.zero, i.size, i.bytes)) = some (some z, size, bytes)) (hz : z.cells.size = size) (h0 : 0 < size) : ElemOf P t e z size bytes := by
  obtain ⟨i, h1, h2, h3, h4⟩ := info_parts hi
  exact ⟨h, ⟨i, h1, h2, h3, h4⟩, hz, h0⟩

/-- The cells of an own slice, its value written out. -/
theorem own_slice {w : World} {base : Nat} {e : TypeId} {size n : Nat} {v : Value} {xs : List Value} (h : w.ownsRow base e size v n xs) :
    ∃ A c, v = .slice A n c ∧ n ≤ c ∧ c ≤ maxLen ∧ (∀ g, A.map (·.block) = some g → base ≤ g ∧ g < w.heap.size) := by
  rcases h.2 with ⟨rfl, rfl⟩ | ⟨g, cap, cur, rfl, hb, hg, hnc, hm, _⟩
  · exact ⟨none, 0, rfl, Nat.le_refl _, by unfold maxLen; omega, fun g hg => by cases hg⟩
  · exact ⟨_, cap, rfl, hnc, hm, fun g' hg' => by injection hg' with hg'; subst hg'; exact ⟨hb, lt_of_block hg⟩⟩

def RowL (w : World) (A : Option Addr) (n size : Nat) (xs : List Value) : Prop := xs.length = n * size ∧ Row w A (n * size) (fun i => xs.getD i undef)

theorem RowL.at_add {w : World} {A : Option Addr} {n size : Nat} {xs : List Value} (h : RowL w A n size xs) {ad : Addr} (hA : A = some ad) : ∀ j u, xs[j]? = some u → w.cell? (ad.add j) = some u := by
  intro j u hu
  have hj : j < xs.length := by rcases Nat.lt_or_ge j xs.length with h | h; exact h; rw [List.getElem?_eq_none h] at hu; cases hu
  have hj' : j < n * size := by rw [← h.1]; exact hj
  obtain ⟨b, o, e, hb, hc⟩ := h.2 (by omega)
  rw [hA] at e
  injection e with e
  subst e
  have : _ = some (xs.getD j undef) := hc j hj'
  rw [List.getD_eq_getElem?_getD, hu] at this
  have hadd : (⟨b, o, none⟩ : Addr).add j = ⟨b, o + j, none⟩ := by unfold Addr.add; split <;> simp_all
  rw [hadd]; exact this

section
variable {P : Program} (w : World)

theorem run_append_of_nil (base : Nat) (t ty e : TypeId) (z : Value) (size bytes : Nat) (hE : ElemOf P t e z size bytes)
    (v : Value) (n : Nat) (xs : List Value) (hown : w.ownsRow base e size v n xs) (c : Nat) : (Builtin.append_ #[t, t] ty #[v, .slice none 0 c]).run P w = .ok v w := by
  obtain ⟨ht, ⟨i, hi, _⟩, _⟩ := hE
  rcases hown.2 with ⟨rfl, rfl⟩ | ⟨g, cap, cur, rfl, _, _, hnc, _⟩
  · simp [Builtin.append_, run_underlying ht, sizeOf, typeInfo, hi, Builtin.lenOf, Builtin.firstCells]
  · simp [Builtin.append_, run_underlying ht, sizeOf, typeInfo, hi, Builtin.lenOf, Builtin.firstCells, hnc, storeCells]

theorem run_append_row (base : Nat) (t ty e : TypeId) (z : Value) (size bytes : Nat) (hE : ElemOf P t e z size bytes)
    (v : Value) (n : Nat) (xs : List Value) (hown : w.ownsRow base e size v n xs)
    (A : Option Addr) (m c : Nat) (news : List Value) (hr : RowL w A m size news) (h1 : ∀ u ∈ news, u.oneCell' = true)
    (h63 : n + m ≤ maxLen) (hbytes : (n + m) * bytes ≤ 140737488355328) (hbase : base ≤ w.heap.size) :
    ∃ v' w', (Builtin.append_ #[t, t] ty #[v, .slice A m c]).run P w = .ok v' w' ∧ w'.ownsRow base e size v' (n + m) (xs ++ news) ∧ w.grownBy w' v.ownBlock ∧
      (v'.ownBlock = v.ownBlock ∨ v'.ownBlock = some w.heap.size) := by
  have hE' := hE
  obtain ⟨ht, ⟨i, hi, hz, hsize, hby⟩, hzs, hsz⟩ := hE
  rcases A with _ | ad
  · have hm : m = 0 := by
      rcases Nat.eq_zero_or_pos m with h0 | h0
      · exact h0
      · obtain ⟨b, o, h, _⟩ := hr.2 (Nat.mul_pos h0 hsz)
        cases h
    subst hm
    have hn : news = [] := List.eq_nil_of_length_eq_zero (by simpa using hr.1)
    subst hn
    exact ⟨v, w, run_append_of_nil w base t ty e z size bytes hE' v n xs hown c, by simpa using hown, World.grownBy.refl w _, .inl rfl⟩
  · obtain ⟨v', w', hrun, h2, h3, _, h5⟩ := run_append_own_at (P := P) w base t ty e i z size bytes ht hi hz hsize hby hzs hsz v n xs hown ad m c news hr.1 (hr.at_add rfl) h1 h63 hbytes hbase
    exact ⟨v', w', hrun, h2, h3, h5⟩

theorem wp_append_row {o : Oper} {a : Act} {K : Act → World → Prop} {Q : Exit → Act → World → Prop} (s x : Operand) (t : TypeId)
    (ho : o.op = .call { callee := .builtin .append, args := #[s, x], argTypes := #[t, t] })
    (base : Nat) (e : TypeId) (z : Value) (size bytes : Nat) (hE : ElemOf P t e z size bytes)
    (v : Value) (n : Nat) (xs : List Value) (hs : a.eval s = v) (hown : w.ownsRow base e size v n xs)
    (A : Option Addr) (m c : Nat) (news : List Value) (hx : a.eval x = .slice A m c) (hr : RowL w A m size news) (h1 : ∀ u ∈ news, u.oneCell' = true)
    (h63 : n + m ≤ maxLen) (hbytes : (n + m) * bytes ≤ 140737488355328) (hbase : base ≤ w.heap.size)
    (h : ∀ A' c' w', w'.ownsRow base e size (.slice A' (n + m) c') (n + m) (xs ++ news) → w.grownBy w' v.ownBlock → Below base w w' → K (a.put o.dst (.slice A' (n + m) c')) w') : o.wp P a w K Q := by
  obtain ⟨v', w', hrun, h2, h3, h4⟩ := run_append_row (P := P) w base t o.type e z size bytes hE v n xs hown A m c news hr h1 h63 hbytes hbase
  unfold Oper.wp execOp
  simp only [ho, resolve, invoke, builtin, Sem.run_bind, Sem.run_pure, Result.andThen_ok, List.map_toArray, List.map_cons, List.map_nil, hs, hx, hrun]
  obtain ⟨A', c', rfl, _⟩ := own_slice h2
  exact h A' c' w' h2 h3 ((Below.refl _ _).grown h3 hbase (fun k hk => (hown.lt k hk).1))

theorem wpList_append_row {ops : Array Oper} {rest : List Oper} {o : Oper} {a : Act} {Q : Exit → Act → World → Prop} {s x : Operand} {t : TypeId} (hgd : o.guard = none)
    (ho : o.op = .call { callee := .builtin .append, args := #[s, x], argTypes := #[t, t] })
    {base : Nat} {e : TypeId} {z : Value} {size bytes : Nat} (hE : ElemOf P t e z size bytes)
    {v : Value} {n : Nat} {xs : List Value} (hs : a.eval s = v) (hown : w.ownsRow base e size v n xs)
    {A : Option Addr} {m c : Nat} {news : List Value} (hx : a.eval x = .slice A m c) (hr : RowL w A m size news) (h1 : ∀ u ∈ news, u.oneCell' = true)
    (h63 : n + m ≤ maxLen) (hbytes : (n + m) * bytes ≤ 140737488355328) (hbase : base ≤ w.heap.size)
    (h : ∀ A' c' w', w'.ownsRow base e size (.slice A' (n + m) c') (n + m) (xs ++ news) → w.grownBy w' v.ownBlock → Below base w w' → wpList P ops Q rest (a.put o.dst (.slice A' (n + m) c')) w') : wpList P ops Q (o :: rest) a w :=
  wpList_plain hgd fun _ hK => wp_append_row w s x t ho base e z size bytes hE v n xs hs hown A m c news hx hr h1 h63 hbytes hbase fun A' c' w' h2 h3 h4 => hK _ _ (h A' c' w' h2 h3 h4)
end

theorem addr_map_add_zero (A : Option Addr) : A.map (fun x => x.add 0) = A := by cases A <;> simp [Addr.add]
theorem run_cut_to {P : Program} {t e : TypeId} {z : Value} {size bytes : Nat} (hE : ElemOf P t e z size bytes) (A : Option Addr) (len cap n : Nat) (h : n ≤ cap) (W : World) :
    (Instr.slice t (.slice A len cap) none (some (.int .i64 (n : Int))) none).run P W = .ok (.slice A n cap) W := by
  obtain ⟨ht, ⟨i, hi, _, hs, _⟩, _⟩ := hE
  have hb : (0 : Int) ≤ (n : Int) ∧ (n : Int) ≤ (cap : Int) := by omega
  simp [Instr.slice, run_underlying ht, Instr.sliceBounds, Instr.sliceBound, hb, sizeOf, typeInfo, hi, asIntOf, addr_map_add_zero]
  intro hlt; omega
theorem run_cut_from {P : Program} {t e : TypeId} {z : Value} {size bytes : Nat} (hE : ElemOf P t e z size bytes) (A : Option Addr) (len cap k : Nat) (h : k ≤ len) (W : World) :
    (Instr.slice t (.slice A len cap) (some (.int .i64 (k : Int))) none none).run P W = .ok (.slice (if cap = k then A else A.map (·.add (k * size))) (len - k) (cap - k)) W := by
  obtain ⟨ht, ⟨i, hi, _, hs, _⟩, _⟩ := hE
  have hb : (0 : Int) ≤ (k : Int) ∧ (k : Int) ≤ (len : Int) := by omega
  simp [Instr.slice, run_underlying ht, Instr.sliceBounds, Instr.sliceBound, hb, sizeOf, typeInfo, hi, asIntOf, hs]
  intro hlt; omega

section
variable {α : Type}
/-- A slice of one-cell elements that reads as a list; an own one. -/
def Rd (enc : α → Value) (w : World) (A : Option Addr) (n : Nat) (l : List α) : Prop := l.length = n ∧ Row w A n (fun i => (l.map enc).getD i undef)
def Ow (enc : α → Value) (w : World) (base : Nat) (e : TypeId) (A : Option Addr) (n c : Nat) (l : List α) : Prop := l.length = n ∧ w.ownsRow base e 1 (.slice A n c) n (l.map enc)
variable {enc : α → Value} {w w' : World} {A B : Option Addr} {n m c d base : Nat} {e : TypeId} {l k : List α}
theorem Ow.rd (h : Ow enc w base e A n c l) : Rd enc w A n l := ⟨h.1, Row.of_own h.2⟩
theorem Rd.below {b : Nat} (h : Rd enc w A n l) (hb : Below b w w') (hB : w.heap.size ≤ b) : Rd enc w' A n l := ⟨h.1, h.2.below hb hB⟩
theorem Rd.rowL (h : Rd enc w A n l) : RowL w A n 1 (l.map enc) := ⟨by rw [List.length_map, h.1]; omega, by rw [Nat.mul_one]; exact h.2⟩
theorem Rd.nil (enc : α → Value) (w : World) (A : Option Addr) : Rd enc w A 0 [] := ⟨rfl, Row.nil _ _ _⟩
theorem getD_map (l : List α) (i : Nat) (h : i < l.length) : (l.map enc).getD i undef = enc l[i] := by simp [List.getD_eq_getElem?_getD, h]
theorem Rd.of_block {g : Nat} {cs : Array Value} {t : TypeId} {fr : Nat × Nat} (hg : w.heap[g]? = some (.cells cs t fr)) {l : List α} (h : cs.toList = l.map enc) : Rd enc w (some ⟨g, 0, none⟩) l.length l :=
  ⟨rfl, Row.of_block hg 0 fun i hi => by
    rw [Nat.zero_add, ← Array.getElem?_toList, h, List.getD_eq_getElem?_getD, List.getElem?_eq_getElem (by simpa using hi)]; rfl⟩
theorem Ow.new (w : World) (e : TypeId) (cs : Array Value) (l : List α) (h : cs.toList = l.map enc) (hm : l.length ≤ maxLen) :
    Ow enc (w.alloc (.cells cs e)) w.heap.size e (some ⟨w.heap.size, 0, none⟩) l.length l.length l :=
  ⟨rfl, by
    have := World.ownsRow_lit (base := w.heap.size) (e := e) (size := 1) w cs l.length (Nat.le_refl _) hm (by rw [← Array.length_toList, h]; simp)
    rwa [h] at this⟩
theorem Ow.lt (h : Ow enc w base e A n c l) : ∀ g, A.map (·.block) = some g → base ≤ g ∧ g < w.heap.size := by
  intro g hg
  cases A with
  | none => cases hg
  | some a => exact h.2.lt g (by simpa [Value.ownBlock] using hg)
theorem Ow.cap (h : Ow enc w base e A n c l) : n ≤ c ∧ c ≤ maxLen := by
  obtain ⟨A', c', e', h1, h2, _⟩ := own_slice h.2
  injection e' with _ _ e'
  subst e'
  exact ⟨h1, h2⟩
theorem Ow.below {b : Nat} (h : Ow enc w base e A n c l) (hb : Below b w w') (hB : w.heap.size ≤ b) : Ow enc w' base e A n c l := by
  refine ⟨h.1, h.2.1, ?_⟩
  rcases h.2.2 with hn | ⟨g, cap, cur, hv, hbg, hg, rest⟩
  · exact .inl hn
  · exact .inr ⟨g, cap, cur, hv, hbg, by rw [hb.block g (Nat.lt_of_lt_of_le (lt_of_block hg) hB)]; exact hg, rest⟩
theorem Ow.rebase {base' : Nat} (h : Ow enc w base e A n c l) (hb : base' ≤ base) : Ow enc w base' e A n c l := by
  refine ⟨h.1, h.2.1, ?_⟩
  rcases h.2.2 with hn | ⟨g, cap, cur, hv, hbg, rest⟩
  · exact .inl hn
  · exact .inr ⟨g, cap, cur, hv, Nat.le_trans hb hbg, rest⟩
theorem Ow.addr (h : Ow enc w base e A n c l) (h0 : 0 < n) : ∃ g, A = some ⟨g, 0, none⟩ ∧ base ≤ g ∧ g < w.heap.size := by
  rcases h.2.2 with ⟨_, hn⟩ | ⟨g, cap, cur, hv, hb, hg, _⟩
  · omega
  · injection hv with hv _ _
    exact ⟨g, hv, hb, lt_of_block hg⟩
theorem Ow.shorter {g m : Nat} (h : Ow enc w base e (some ⟨g, 0, none⟩) n c l) (hm : m ≤ n) : Ow enc w base e (some ⟨g, 0, none⟩) m c (l.take m) := by
  refine ⟨by rw [List.length_take, h.1]; omega, by rw [List.length_map, List.length_take, h.1]; omega, ?_⟩
  rcases h.2.2 with ⟨hv, _⟩ | ⟨g', cap, cur, hv, hb, hg, hnc, hcm, hsz, ht⟩
  · cases hv
  · injection hv with hv _ hcap
    subst hcap
    injection hv with hv
    injection hv with hv _ _
    subst hv
    refine .inr ⟨_, _, cur, rfl, hb, hg, by omega, hcm, hsz, ?_⟩
    rw [List.map_take, ← ht, List.take_take]
    congr 1; omega
theorem Ow.free {g : Nat} (h : Ow enc w base e (some ⟨g, 0, none⟩) n c l) (i : Nat) : w.frozen? ⟨g, i, none⟩ = false := h.2.frozenAt i
theorem Ow.set {g : Nat} (h : Ow enc w base e (some ⟨g, 0, none⟩) n c l) (i : Nat) (x : α) (u : Value) (hu : u = enc x) : Ow enc (w.setCell ⟨g, i, none⟩ u) base e (some ⟨g, 0, none⟩) n c (l.set i x) :=
  ⟨by rw [List.length_set]; exact h.1, by subst hu; rw [List.map_set]; exact (h.2.stored i (enc x)).1⟩
theorem Ow.nil (enc : α → Value) (w : World) (base : Nat) (e : TypeId) : Ow enc w base e none 0 0 [] := ⟨rfl, World.ownsRow_nil w base e 1⟩

theorem wp_app {P : Program} {o : Oper} {a : Act} {K : Act → World → Prop} {Q : Exit → Act → World → Prop} {s x : Operand} {t : TypeId} {z : Value} {bytes N : Nat} {L : List α}
    (ho : o.op = .call { callee := .builtin .append, args := #[s, x], argTypes := #[t, t] })
    (hE : ElemOf P t e z 1 bytes) (hone : ∀ x, (enc x).oneCell' = true)
    (hs : a.eval s = .slice A n c) (hown : Ow enc w base e A n c l)
    (hx : a.eval x = .slice B m d) (hr : Rd enc w B m k)
    (hN : n + m = N) (hL : l ++ k = L) (h63 : N ≤ maxLen) (hbytes : N * bytes ≤ 140737488355328) (hbase : base ≤ w.heap.size)
    (h : ∀ A' c' w', Ow enc w' base e A' N c' L → w.grownBy w' (A.map (·.block)) → (A'.map (·.block) = A.map (·.block) ∨ A'.map (·.block) = some w.heap.size) → Below base w w' → K (a.put o.dst (.slice A' N c')) w') :
    o.wp P a w K Q := by
  subst hN hL
  obtain ⟨v', w', hrun, h2, h3, h4⟩ := run_append_row (P := P) w base t o.type e z 1 bytes hE _ n _ hown.2 B m d _ hr.rowL (by
    intro u hu; obtain ⟨y, _, rfl⟩ := List.mem_map.1 hu; exact hone y) h63 hbytes hbase
  unfold Oper.wp execOp
  simp only [ho, resolve, invoke, builtin, Sem.run_bind, Sem.run_pure, Result.andThen_ok, List.map_toArray, List.map_cons, List.map_nil, hs, hx, hrun]
  obtain ⟨A', c', rfl, _⟩ := own_slice h2
  have hA : (Value.slice A n c).ownBlock = A.map (·.block) := by cases A <;> rfl
  have hA' : (Value.slice A' (n + m) c').ownBlock = A'.map (·.block) := by cases A' <;> rfl
  rw [hA] at h3 h4
  rw [hA'] at h4
  exact h A' c' w' ⟨by rw [List.length_append, hown.1, hr.1], by rw [List.map_append]; exact h2⟩ h3 h4 ((Below.refl _ _).grown h3 hbase (fun g hg => (hown.lt g hg).1))

theorem wpList_app {P : Program} {ops : Array Oper} {rest : List Oper} {o : Oper} {a : Act} {Q : Exit → Act → World → Prop} {s x : Operand} {t : TypeId} {z : Value} {bytes N : Nat} {L : List α} (hgd : o.guard = none)
    (ho : o.op = .call { callee := .builtin .append, args := #[s, x], argTypes := #[t, t] })
    (hE : ElemOf P t e z 1 bytes) (hone : ∀ x, (enc x).oneCell' = true)
    (hs : a.eval s = .slice A n c) (hown : Ow enc w base e A n c l)
    (hx : a.eval x = .slice B m d) (hr : Rd enc w B m k)
    (hN : n + m = N) (hL : l ++ k = L) (h63 : N ≤ maxLen) (hbytes : N * bytes ≤ 140737488355328) (hbase : base ≤ w.heap.size)
    (h : ∀ A' c' w', Ow enc w' base e A' N c' L → w.grownBy w' (A.map (·.block)) → (A'.map (·.block) = A.map (·.block) ∨ A'.map (·.block) = some w.heap.size) → Below base w w' → wpList P ops Q rest (a.put o.dst (.slice A' N c')) w') :
    wpList P ops Q (o :: rest) a w :=
  wpList_plain hgd fun _ hK => wp_app ho hE hone hs hown hx hr hN hL h63 hbytes hbase fun A' c' w' h1 h2 h3 h4 => hK _ _ (h A' c' w' h1 h2 h3 h4)

theorem step_app {P : Program} {ops : Array Oper} {o : Oper} {a : Act} {K : Act → World → Prop} {Q : Exit → Act → World → Prop} {E : Prop} {s x : Operand} {t : TypeId} {z : Value} {bytes N : Nat} {L : List α} (hgd : o.guard = none)
    (ho : o.op = .call { callee := .builtin .append, args := #[s, x], argTypes := #[t, t] })
    (hE : ElemOf P t e z 1 bytes) (hone : ∀ x, (enc x).oneCell' = true)
    (hs : a.eval s = .slice A n c) (hown : Ow enc w base e A n c l)
    (hx : a.eval x = .slice B m d) (hr : Rd enc w B m k)
    (hN : n + m = N) (hL : l ++ k = L) (h63 : N ≤ maxLen) (hbytes : N * bytes ≤ 140737488355328) (hbase : base ≤ w.heap.size)
    (h : ∀ A' c' w', Ow enc w' base e A' N c' L → w.grownBy w' (A.map (·.block)) → (A'.map (·.block) = A.map (·.block) ∨ A'.map (·.block) = some w.heap.size) → Below base w w' → K (a.put o.dst (.slice A' N c')) w') :
    if Region.wanted o (yielded ops a.tmps) = true then Oper.wp P o a w K Q else E := by
  have hw : Region.wanted o (yielded ops a.tmps) = true := by simp [Region.wanted, hgd]
  rw [if_pos hw]
  exact wp_app ho hE hone hs hown hx hr hN hL h63 hbytes hbase h
end

/-- The length in a slot, for a loop's measure. -/
def lenIn : Value → Nat | .slice _ n _ => n | _ => 0
def bv (b : UInt8) : Value := .int .u8 (b.toNat : Int)
def iv (n : Int) : Value := .int .i64 n
theorem bv_one (b : UInt8) : (bv b).oneCell' = true := rfl
theorem iv_one (b : Int) : (iv b).oneCell' = true := rfl
theorem bv_getD (l : List UInt8) (i : Nat) (h : i < l.length) : (l.map bv).getD i undef = .int .u8 (byteAt l i) := by
  rw [getD_map l i h]; unfold bv byteAt; simp [List.getD_eq_getElem?_getD, h]
theorem RB.rd {w : World} {A : Option Addr} {n : Nat} {l : List UInt8} (h : RB w A n l) : Rd bv w A n l := ⟨h.1, h.2.congr fun i hi => (bv_getD l i (by rw [h.1]; exact hi)).symm⟩
theorem Rd.rb {w : World} {A : Option Addr} {n : Nat} {l : List UInt8} (h : Rd bv w A n l) : RB w A n l := ⟨h.1, h.2.congr fun i hi => bv_getD l i (by rw [h.1]; exact hi)⟩
abbrev OB (w : World) (base : Nat) (e : TypeId) (A : Option Addr) (n c : Nat) (l : List UInt8) : Prop := Ow bv w base e A n c l
theorem RB.of_block {w : World} {g : Nat} {cs : Array Value} {t : TypeId} {fr : Nat × Nat} (hg : w.heap[g]? = some (.cells cs t fr)) {l : List UInt8} (h : cs.toList = l.map bv) : RB w (some ⟨g, 0, none⟩) l.length l := (Rd.of_block hg h).rb
/-- A slice of numbers. -/
def intAt (l : List Int) (i : Nat) : Int := l.getD i 0
def RI (w : World) (a : Option Addr) (n : Nat) (l : List Int) : Prop := l.length = n ∧ Row w a n (fun i => .int .i64 (intAt l i))
theorem iv_getD (l : List Int) (i : Nat) (h : i < l.length) : (l.map iv).getD i undef = .int .i64 (intAt l i) := by
  rw [getD_map l i h]; unfold iv intAt; simp [List.getD_eq_getElem?_getD, h]
theorem RI.rd {w : World} {A : Option Addr} {n : Nat} {l : List Int} (h : RI w A n l) : Rd iv w A n l := ⟨h.1, h.2.congr fun i hi => (iv_getD l i (by rw [h.1]; exact hi)).symm⟩
theorem Rd.ri {w : World} {A : Option Addr} {n : Nat} {l : List Int} (h : Rd iv w A n l) : RI w A n l := ⟨h.1, h.2.congr fun i hi => iv_getD l i (by rw [h.1]; exact hi)⟩
theorem RI.at_ {w : World} {a : Option Addr} {n k : Nat} {l : List Int} (h : RI w a n l) (hk : k < n) : ∃ b o, a = some ⟨b, o, none⟩ ∧ b < w.heap.size ∧ w.cell? ⟨b, o + k, none⟩ = some (.int .i64 (intAt l k)) := h.2.at_ hk
theorem RI.below {w w' : World} {a : Option Addr} {n B : Nat} {l : List Int} (h : RI w a n l) (hb : Below B w w') (hB : w.heap.size ≤ B) : RI w' a n l := ⟨h.1, h.2.below hb hB⟩
theorem RB.less {w : World} {A : Option Addr} {n m : Nat} {l : List UInt8} (h : RB w A n l) (hm : m ≤ n) : RB w A m (l.take m) :=
  ⟨by rw [List.length_take, h.1]; omega, (h.2.take hm).congr fun i hi => by
    unfold byteAt; simp [List.getD_eq_getElem?_getD, hi]⟩
theorem elemU8 : ElemOf Try.prog 23 5 (.int .u8 0) 1 1 := ElemOf.mk' Try.underlying23 (by kernel_rfl) rfl (by decide)
theorem elemInt : ElemOf Try.prog 63 3 (.int .i64 0) 1 8 := ElemOf.mk' Try.underlying63 (by kernel_rfl) rfl (by decide)
end Go.Proofs.Ytninidpbchcliaa
