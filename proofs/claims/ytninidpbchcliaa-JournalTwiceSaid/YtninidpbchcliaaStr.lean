/- Slices of structs that read as lists: each element several cells. -/
import Derived.Test.YtninidpbchcliaaKeep
namespace Go.Proofs.Ytninidpbchcliaa
open Go.RowKit

section
variable {α : Type} {size : Nat} {enc : α → List Value} {w w' : World} {A : Option Addr} {n c base : Nat} {e : TypeId} {l : List α}
theorem flat_len (henc : ∀ x, (enc x).length = size) (l : List α) : (l.flatMap enc).length = l.length * size := by
  induction l with
  | nil => simp
  | cons x l ih => rw [List.flatMap_cons, List.length_append, ih, henc, List.length_cons, Nat.succ_mul, Nat.add_comm]
theorem flat_at (henc : ∀ x, (enc x).length = size) {j : Nat} (hj : j < size) : ∀ (l : List α) (k : Nat) (x : α), l[k]? = some x → (l.flatMap enc)[k * size + j]? = (enc x)[j]? := by
  intro l
  induction l with
  | nil => intro k x h; simp at h
  | cons y l ih =>
    intro k x h
    rw [List.flatMap_cons]
    cases k with
    | zero =>
      simp only [List.getElem?_cons_zero, Option.some.injEq] at h
      subst h
      rw [Nat.zero_mul, Nat.zero_add, List.getElem?_append_left (by rw [henc]; exact hj)]
    | succ k =>
      simp only [List.getElem?_cons_succ] at h
      rw [List.getElem?_append_right (by rw [henc, Nat.succ_mul]; omega), henc, show (k + 1) * size + j - size = k * size + j from by rw [Nat.succ_mul]; omega]
      exact ih k x h
/-- A slice whose elements have several cells reads as a list; an own one. -/
def RdS (size : Nat) (enc : α → List Value) (w : World) (A : Option Addr) (n : Nat) (l : List α) : Prop := l.length = n ∧ RowL w A n size (l.flatMap enc)
def OwS (size : Nat) (enc : α → List Value) (w : World) (base : Nat) (e : TypeId) (A : Option Addr) (n c : Nat) (l : List α) : Prop := l.length = n ∧ w.ownsRow base e size (.slice A n c) n (l.flatMap enc)
theorem RdS.at_ (h : RdS size enc w A n l) (henc : ∀ x, (enc x).length = size) (h0 : 0 < size) {k : Nat} (hk : k < n) : ∃ b o x, A = some ⟨b, o, none⟩ ∧ b < w.heap.size ∧ l[k]? = some x ∧ ∀ j, j < size → w.cell? ⟨b, o + k * size + j, none⟩ = (enc x)[j]? := by
  have hk' : k < l.length := by rw [h.1]; exact hk
  have hlt : k * size + size ≤ n * size := by rw [← Nat.succ_mul]; exact Nat.mul_le_mul_right _ hk
  obtain ⟨b, o, hA, hb, hc⟩ := h.2.2 (by omega)
  refine ⟨b, o, l[k], hA, hb, List.getElem?_eq_getElem hk', fun j hj => ?_⟩
  have := hc (k * size + j) (by omega)
  rw [Nat.add_assoc, this]
  show some ((l.flatMap enc).getD (k * size + j) undef) = _
  rw [List.getD_eq_getElem?_getD, flat_at henc hj l k _ (List.getElem?_eq_getElem hk')]
  have : j < (enc l[k]).length := by rw [henc]; exact hj
  simp [List.getElem?_eq_getElem this]
theorem RowL.below {b : Nat} {xs : List Value} (h : RowL w A n size xs) (hb : Below b w w') (hB : w.heap.size ≤ b) : RowL w' A n size xs := ⟨h.1, h.2.below hb hB⟩
theorem RdS.below {b : Nat} (h : RdS size enc w A n l) (hb : Below b w w') (hB : w.heap.size ≤ b) : RdS size enc w' A n l := ⟨h.1, h.2.below hb hB⟩
theorem RowL.of_own {xs : List Value} (h : w.ownsRow base e size (.slice A n c) n xs) : RowL w A n size xs := by
  refine ⟨h.1, fun hn => ?_⟩
  rcases h.2 with ⟨hv, h0⟩ | ⟨g, cap, cur, hv, hb, hg, hnc, hm, hs, ht⟩
  · rw [h0, Nat.zero_mul] at hn; omega
  · injection hv with hv _ _
    subst hv
    have hle : n * size ≤ cap * size := Nat.mul_le_mul_right _ hnc
    refine ⟨g, 0, rfl, lt_of_block hg, fun i hi => ?_⟩
    rw [Nat.zero_add, cell_of_row w g i cur e (0, 0) hg, ← ht]
    have hi' : i < cur.size := by omega
    show _ = some ((List.take (n * size) cur.toList).getD i undef)
    rw [List.getD_eq_getElem?_getD, List.getElem?_take, if_pos hi]
    simp [hi']
theorem OwS.rd (h : OwS size enc w base e A n c l) : RdS size enc w A n l := ⟨h.1, RowL.of_own h.2⟩
theorem OwS.below {b : Nat} (h : OwS size enc w base e A n c l) (hb : Below b w w') (hB : w.heap.size ≤ b) : OwS size enc w' base e A n c l := by
  refine ⟨h.1, h.2.1, ?_⟩
  rcases h.2.2 with hn | ⟨g, cap, cur, hv, hbg, hg, rest⟩
  · exact .inl hn
  · exact .inr ⟨g, cap, cur, hv, hbg, by rw [hb.block g (Nat.lt_of_lt_of_le (lt_of_block hg) hB)]; exact hg, rest⟩
theorem OwS.rebase {base' : Nat} (h : OwS size enc w base e A n c l) (hb : base' ≤ base) : OwS size enc w base' e A n c l := by
  refine ⟨h.1, h.2.1, ?_⟩
  rcases h.2.2 with hn | ⟨g, cap, cur, hv, hbg, rest⟩
  · exact .inl hn
  · exact .inr ⟨g, cap, cur, hv, Nat.le_trans hb hbg, rest⟩
theorem OwS.nil (size : Nat) (enc : α → List Value) (w : World) (base : Nat) (e : TypeId) : OwS size enc w base e none 0 0 [] := ⟨rfl, World.ownsRow_nil w base e size⟩
theorem OwS.cap (h : OwS size enc w base e A n c l) : n ≤ c ∧ c ≤ maxLen := by
  obtain ⟨A', c', e', h1, h2, _⟩ := own_slice h.2
  injection e' with _ _ e'
  subst e'
  exact ⟨h1, h2⟩
theorem OwS.ne_ {g : Nat} {t : TypeId} {cs : List Value} (h : OwS size enc w base e A n c l) (hg : Blk w g t cs) (hne : e ≠ t) : A.map (·.block) ≠ some g := fun e => own_ne h.2 hg hne (by cases A with | none => cases e | some a => simpa [Value.ownBlock] using e)
theorem OwS.setFar {g : Nat} {t : TypeId} {cs : List Value} (h : OwS size enc w base e A n c l) (hg : Blk w g t cs) (hne : e ≠ t) (i : Nat) (u : Value) : OwS size enc (w.setCell ⟨g, i, none⟩ u) base e A n c l :=
  ⟨h.1, own_keep (F := (· = g)) h.2 (Keep.of_grown (grown_setCell u) (fun x e => by injection e with e; exact e.symm)) (fun x hx e => own_ne h.2 hg hne (by subst e; exact hx))⟩
theorem RdS.of_block {g : Nat} {cs : Array Value} {t : TypeId} {fr : Nat × Nat} (hg : w.heap[g]? = some (.cells cs t fr)) (henc : ∀ x, (enc x).length = size) {l : List α} (h : cs.toList = l.flatMap enc) : RdS size enc w (some ⟨g, 0, none⟩) l.length l :=
  ⟨rfl, flat_len henc l, Row.of_block hg 0 fun i hi => by
    rw [Nat.zero_add, ← Array.getElem?_toList, h, List.getD_eq_getElem?_getD, List.getElem?_eq_getElem (by rw [flat_len henc]; exact hi)]; rfl⟩

theorem wp_appS {P : Program} {o : Oper} {a : Act} {K : Act → World → Prop} {Q : Exit → Act → World → Prop} {s x : Operand} {t : TypeId} {z : Value} {bytes N m d : Nat} {B : Option Addr} {k L : List α}
    (ho : o.op = .call { callee := .builtin .append, args := #[s, x], argTypes := #[t, t] })
    (hE : ElemOf P t e z size bytes) (hone : ∀ x, ∀ u ∈ enc x, u.oneCell' = true)
    (hs : a.eval s = .slice A n c) (hown : OwS size enc w base e A n c l)
    (hx : a.eval x = .slice B m d) (hr : RdS size enc w B m k)
    (hN : n + m = N) (hL : l ++ k = L) (h63 : N ≤ maxLen) (hbytes : N * bytes ≤ 140737488355328) (hbase : base ≤ w.heap.size)
    (h : ∀ A' c' w', OwS size enc w' base e A' N c' L → w.grownBy w' (A.map (·.block)) → (A'.map (·.block) = A.map (·.block) ∨ A'.map (·.block) = some w.heap.size) → Below base w w' → K (a.put o.dst (.slice A' N c')) w') :
    o.wp P a w K Q := by
  subst hN hL
  obtain ⟨v', w', hrun, h2, h3, h4⟩ := run_append_row (P := P) w base t o.type e z size bytes hE _ n _ hown.2 B m d _ hr.2 (by
    intro u hu; obtain ⟨y, _, hy⟩ := List.mem_flatMap.1 hu; exact hone y u hy) h63 hbytes hbase
  unfold Oper.wp execOp
  simp only [ho, resolve, invoke, builtin, Sem.run_bind, Sem.run_pure, Result.andThen_ok, List.map_toArray, List.map_cons, List.map_nil, hs, hx, hrun]
  obtain ⟨A', c', rfl, _⟩ := own_slice h2
  have hA : (Value.slice A n c).ownBlock = A.map (·.block) := by cases A <;> rfl
  have hA' : (Value.slice A' (n + m) c').ownBlock = A'.map (·.block) := by cases A' <;> rfl
  rw [hA] at h3 h4
  rw [hA'] at h4
  exact h A' c' w' ⟨by rw [List.length_append, hown.1, hr.1], by rw [List.flatMap_append]; exact h2⟩ h3 h4 ((Below.refl _ _).grown h3 hbase (fun g hg => by
    cases A with
    | none => cases hg
    | some a => exact (hown.2.lt g (by simpa [Value.ownBlock] using hg)).1))
theorem wpList_appS {P : Program} {ops : Array Oper} {rest : List Oper} {o : Oper} {a : Act} {Q : Exit → Act → World → Prop} {s x : Operand} {t : TypeId} {z : Value} {bytes N m d : Nat} {B : Option Addr} {k L : List α} (hgd : o.guard = none)
    (ho : o.op = .call { callee := .builtin .append, args := #[s, x], argTypes := #[t, t] })
    (hE : ElemOf P t e z size bytes) (hone : ∀ x, ∀ u ∈ enc x, u.oneCell' = true)
    (hs : a.eval s = .slice A n c) (hown : OwS size enc w base e A n c l)
    (hx : a.eval x = .slice B m d) (hr : RdS size enc w B m k)
    (hN : n + m = N) (hL : l ++ k = L) (h63 : N ≤ maxLen) (hbytes : N * bytes ≤ 140737488355328) (hbase : base ≤ w.heap.size)
    (h : ∀ A' c' w', OwS size enc w' base e A' N c' L → w.grownBy w' (A.map (·.block)) → (A'.map (·.block) = A.map (·.block) ∨ A'.map (·.block) = some w.heap.size) → Below base w w' → wpList P ops Q rest (a.put o.dst (.slice A' N c')) w') :
    wpList P ops Q (o :: rest) a w :=
  wpList_plain hgd fun _ hK => wp_appS ho hE hone hs hown hx hr hN hL h63 hbytes hbase fun A' c' w' h1 h2 h3 h4 => hK _ _ (h A' c' w' h1 h2 h3 h4)
theorem step_appS {P : Program} {ops : Array Oper} {o : Oper} {a : Act} {K : Act → World → Prop} {Q : Exit → Act → World → Prop} {E : Prop} {s x : Operand} {t : TypeId} {z : Value} {bytes N m d : Nat} {B : Option Addr} {k L : List α} (hgd : o.guard = none)
    (ho : o.op = .call { callee := .builtin .append, args := #[s, x], argTypes := #[t, t] })
    (hE : ElemOf P t e z size bytes) (hone : ∀ x, ∀ u ∈ enc x, u.oneCell' = true)
    (hs : a.eval s = .slice A n c) (hown : OwS size enc w base e A n c l)
    (hx : a.eval x = .slice B m d) (hr : RdS size enc w B m k)
    (hN : n + m = N) (hL : l ++ k = L) (h63 : N ≤ maxLen) (hbytes : N * bytes ≤ 140737488355328) (hbase : base ≤ w.heap.size)
    (h : ∀ A' c' w', OwS size enc w' base e A' N c' L → w.grownBy w' (A.map (·.block)) → (A'.map (·.block) = A.map (·.block) ∨ A'.map (·.block) = some w.heap.size) → Below base w w' → K (a.put o.dst (.slice A' N c')) w') :
    if Region.wanted o (yielded ops a.tmps) = true then Oper.wp P o a w K Q else E := by
  have hw : Region.wanted o (yielded ops a.tmps) = true := by simp [Region.wanted, hgd]
  rw [if_pos hw]
  exact wp_appS ho hE hone hs hown hx hr hN hL h63 hbytes hbase h
end
end Go.Proofs.Ytninidpbchcliaa
