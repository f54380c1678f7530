/- Plain laws: a program's bytes are read back, and what is read has just these bytes. No program in sight. -/
import Derived.Test.YtkhihgilodhjfaaPlainRdrB
import Derived.Test.YtkhihgilodhjfaaPlainNumC
namespace Go.Proofs.Ytkhihgilodhjfaa
open Go.RowKit
set_option linter.unusedVariables false
set_option linter.unusedSimpArgs false

/-! ### One reading forth -/
theorem u8_ofInt {t : Int} (h0 : 0 ≤ t) (h1 : t < 256) : (UInt8.ofNat t.toNat).toNat = t.toNat := u8_ofNat_toNat (by omega)
theorem longV_dig {n : Nat} (h : n < 9223372036854775808) (more : List UInt8) : endsL 9 0 (digL 9 n ++ more) = ((digL 9 n).length, 0) ∧ longV (digL 9 n ++ more) = n := by
  have he : endsL 9 0 (digL 9 n ++ more) = ((digL 9 n).length, 0) := by
    rw [endsL_dig 9 0 9 _ _ (by have := digL_nine n h; omega) (by omega) (by omega), Nat.zero_add]
  refine ⟨he, ?_⟩
  unfold longV readV
  rw [he]
  simp only [if_true]
  rw [List.take_left, sevL_dig 9 _ (by omega)]
  exact Nat.mod_eq_of_lt h
theorem rShort_dig {lo hi n : Nat} (h : n < 9223372036854775808) (h1 : lo ≤ n) (h2 : n ≤ hi) (more : List UInt8) : rShort lo hi (digL 9 n ++ more, 0) = (n, (more, 0)) := by
  obtain ⟨he, hv⟩ := longV_dig h more
  unfold rShort
  simp only [he, hv]
  rw [if_neg (by simp), if_neg (by simp), if_neg (by omega), List.drop_left]
theorem rZig_dig {n : Int} (h0 : -9223372036854775808 ≤ n) (h1 : n ≤ 9223372036854775807) (more : List UInt8) : rZig (digL 9 (zz n) ++ more, 0) = (n, (more, 0)) := by
  obtain ⟨he, hs, hv⟩ := zag_dig h0 h1 more
  unfold rZig
  simp only [he, hs, hv]
  rw [if_neg (by simp), if_neg (by simp), List.drop_left]
theorem rByte_cons (b : UInt8) (more : List UInt8) : rByte (b :: more, 0) = (b.toNat, (more, 0)) := by
  unfold rByte; simp [byteAt]
theorem needS_ok (s : RS) {ok : Bool} (h : ok = true) (z : Nat) : needS s ok z = s := by subst h; unfold needS; simp
theorem rKind_cons {t : Int} (h : t = 1 ∨ t = 2) (more : List UInt8) : rKind (UInt8.ofNat t.toNat :: more, 0) = (t.toNat, (more, 0)) := by
  unfold rKind
  rw [rByte_cons, u8_ofInt (by omega) (by omega)]
  show (t.toNat, needS (more, 0) (typeB t.toNat) 11) = _
  rw [needS_ok _ (by unfold typeB; rcases h with rfl | rfl <;> rfl)]
theorem rKinds_dig : ∀ (l : List Int) (more : List UInt8), (∀ t ∈ l, t = 1 ∨ t = 2) → ∀ n ≤ l.length, rKinds n (l.map (fun t => UInt8.ofNat t.toNat) ++ more, 0) = (l.take n, ((l.drop n).map (fun t => UInt8.ofNat t.toNat) ++ more, 0)) := by
  intro l more hl n
  induction n with
  | zero => intro _; rfl
  | succ n ih =>
    intro hn
    unfold rKinds
    rw [ih (by omega)]
    have hd : l.drop n = l[n] :: l.drop (n + 1) := List.drop_eq_getElem_cons (by omega)
    have ht := hl l[n] (List.getElem_mem (by omega))
    simp only
    rw [hd, List.map_cons, List.cons_append, rKind_cons ht, List.take_succ_eq_append_getElem (by omega)]
    simp only
    rw [show ((l[n].toNat : Nat) : Int) = l[n] by omega]
theorem rTypes_dig {l : List Int} (h : rightB l = true) (more : List UInt8) : rTypes (typesBs l ++ more, 0) = (l, (more, 0)) := by
  obtain ⟨h1, h2, h3⟩ := rightB_true.1 h
  have hl : ∀ t ∈ l, t = 1 ∨ t = 2 := fun t ht => by
    obtain ⟨i, hi, rfl⟩ := List.mem_iff_getElem.1 ht
    have := h1 i hi
    unfold intAt at this
    rw [List.getD_eq_getElem?_getD, List.getElem?_eq_getElem hi] at this
    exact this
  unfold rTypes typesBs
  rw [List.append_assoc, rShort_dig (by omega) h2 h3]
  simp only
  rw [rKinds_dig l more hl l.length (Nat.le_refl _)]
  simp
theorem rCell_dig {x : Int × Int} (h : valueB x.1 x.2 = true) (h0 : -9223372036854775808 ≤ x.2) (h1 : x.2 ≤ 9223372036854775807) (more : List UInt8) : rCell (cellBs x ++ more, 0) = (x, (more, 0)) := by
  obtain ⟨t, v⟩ := x
  have ht : t = 1 ∨ t = 2 := by
    unfold valueB at h
    simp only [Bool.or_eq_true, Bool.and_eq_true, beq_iff_eq] at h
    omega
  unfold rCell cellBs
  rw [List.cons_append, rKind_cons ht]
  simp only
  rw [rZig_dig h0 h1]
  simp only
  rw [show ((t.toNat : Nat) : Int) = t by omega, needS_ok _ h]
theorem rCells_dig : ∀ (l : List (Int × Int)) (more : List UInt8), (∀ x ∈ l, valueB x.1 x.2 = true ∧ -9223372036854775808 ≤ x.2 ∧ x.2 ≤ 9223372036854775807) → ∀ n ≤ l.length, rCells n (l.flatMap cellBs ++ more, 0) = (l.take n, ((l.drop n).flatMap cellBs ++ more, 0)) := by
  intro l more hl n
  induction n with
  | zero => intro _; rfl
  | succ n ih =>
    intro hn
    unfold rCells
    rw [ih (by omega)]
    have hd : l.drop n = l[n] :: l.drop (n + 1) := List.drop_eq_getElem_cons (by omega)
    have ht := hl l[n] (List.getElem_mem (by omega))
    simp only
    rw [hd, List.flatMap_cons, List.append_assoc, rCell_dig ht.1 ht.2.1 ht.2.2, List.take_succ_eq_append_getElem (by omega)]
theorem rInstr_dig {x : Ins} (h : InsOk x) (h0 : x.a ≤ 9223372036854775807 ∧ x.b ≤ 9223372036854775807 ∧ x.c ≤ 9223372036854775807 ∧ -9223372036854775808 ≤ x.k ∧ x.k ≤ 9223372036854775807) (more : List UInt8) : rInstr (insBs x ++ more, 0) = (x, (more, 0)) := by
  obtain ⟨op, a, b, c, k⟩ := x
  obtain ⟨hc, ha, hb, hcc, h1, h2, h3⟩ := h
  obtain ⟨ba, bb, bc, bk0, bk1⟩ := h0
  simp only at hc ha hb hcc h1 h2 h3 ba bb bc bk0 bk1
  have hop : 0 ≤ op ∧ op < 256 := by
    rcases op_cases op with q | q | q | q | q
    · omega
    · omega
    · omega
    · omega
    · exact absurd (cls_0 q) hc
  have e1 : rOp (insBs ⟨op, a, b, c, k⟩ ++ more, 0) = (op.toNat, ((digL 9 a.toNat ++ ((if 2 ≤ cls op then digL 9 b.toNat else []) ++ ((if 3 ≤ cls op then digL 9 c.toNat else []) ++ (if hasK op then digL 9 (zz k) else [])))) ++ more, 0)) := by
    unfold rOp insBs
    rw [List.cons_append, rByte_cons, u8_ofInt hop.1 hop.2]
    simp only
    rw [show ((op.toNat : Nat) : Int) = op by omega, needS_ok _ (by simpa using hc)]
  unfold rInstr
  simp only [e1]
  rw [show ((op.toNat : Nat) : Int) = op by omega, List.append_assoc, rShort_dig (by omega) (by omega) (by omega)]
  simp only
  have hK : hasK op = decide (cls op = 1 ∨ cls op = 4) := by unfold hasK; by_cases q1 : cls op = 1 <;> by_cases q2 : cls op = 4 <;> simp [q1, q2]
  rw [hK]
  have eb : rOpt (decide (2 ≤ cls op)) (((if 2 ≤ cls op then digL 9 b.toNat else []) ++ ((if 3 ≤ cls op then digL 9 c.toNat else []) ++ (if decide (cls op = 1 ∨ cls op = 4) then digL 9 (zz k) else []))) ++ more, 0) = (b.toNat, (((if 3 ≤ cls op then digL 9 c.toNat else []) ++ (if decide (cls op = 1 ∨ cls op = 4) then digL 9 (zz k) else [])) ++ more, 0)) := by
    unfold rOpt
    by_cases q : 2 ≤ cls op
    · simp only [q, decide_true, if_true]
      rw [List.append_assoc, rShort_dig (by omega) (by omega) (by omega)]
    · simp only [q, decide_false, if_false, List.nil_append]
      rw [h1 (by omega)]; rfl
  rw [eb]
  simp only
  have ec : rOpt (decide (3 ≤ cls op)) (((if 3 ≤ cls op then digL 9 c.toNat else []) ++ (if decide (cls op = 1 ∨ cls op = 4) then digL 9 (zz k) else [])) ++ more, 0) = (c.toNat, ((if decide (cls op = 1 ∨ cls op = 4) then digL 9 (zz k) else []) ++ more, 0)) := by
    unfold rOpt
    by_cases q : 3 ≤ cls op
    · simp only [q, decide_true, if_true]
      rw [List.append_assoc, rShort_dig (by omega) (by omega) (by omega)]
    · simp only [q, decide_false, if_false, List.nil_append]
      rw [h2 (by omega)]; rfl
  rw [ec]
  simp only
  have ek : rOptZ (decide (cls op = 1 ∨ cls op = 4)) ((if decide (cls op = 1 ∨ cls op = 4) then digL 9 (zz k) else []) ++ more, 0) = (k, (more, 0)) := by
    unfold rOptZ
    by_cases q : cls op = 1 ∨ cls op = 4
    · simp only [q, decide_true, if_true]
      rw [rZig_dig bk0 bk1]
    · simp only [q, decide_false, List.nil_append]
      rw [h3 (by have := cls_le op; omega)]; rfl
  rw [ek]
  simp only
  rw [show ((a.toNat : Nat) : Int) = a by omega, show ((b.toNat : Nat) : Int) = b by omega, show ((c.toNat : Nat) : Int) = c by omega]
theorem rInstrs_dig : ∀ (l : List Ins) (more : List UInt8), (∀ x ∈ l, InsOk x ∧ x.a ≤ 9223372036854775807 ∧ x.b ≤ 9223372036854775807 ∧ x.c ≤ 9223372036854775807 ∧ -9223372036854775808 ≤ x.k ∧ x.k ≤ 9223372036854775807) → ∀ n ≤ l.length, rInstrs n (l.flatMap insBs ++ more, 0) = (l.take n, ((l.drop n).flatMap insBs ++ more, 0)) := by
  intro l more hl n
  induction n with
  | zero => intro _; rfl
  | succ n ih =>
    intro hn
    unfold rInstrs
    rw [ih (by omega)]
    have hd : l.drop n = l[n] :: l.drop (n + 1) := List.drop_eq_getElem_cons (by omega)
    have ht := hl l[n] (List.getElem_mem (by omega))
    simp only
    rw [hd, List.flatMap_cons, List.append_assoc, rInstr_dig ht.1 ht.2, List.take_succ_eq_append_getElem (by omega)]
theorem getD_mem {α : Type} {l : List α} {x d : α} {P : α → Prop} (h : ∀ i, i < l.length → P (l.getD i d)) (hx : x ∈ l) : P x := by
  obtain ⟨i, hi, rfl⟩ := List.mem_iff_getElem.1 hx
  have := h i hi
  rwa [List.getD_eq_getElem?_getD, List.getElem?_eq_getElem hi] at this
theorem decode_bytes {p : PV} (hm : mayB p = true) (hc : ∀ x ∈ p.cells, -9223372036854775808 ≤ x.2 ∧ x.2 ≤ 9223372036854775807)
    (hi : ∀ x ∈ p.code, x.a ≤ 9223372036854775807 ∧ x.b ≤ 9223372036854775807 ∧ x.c ≤ 9223372036854775807 ∧ -9223372036854775808 ≤ x.k ∧ x.k ≤ 9223372036854775807) : decodeL (progBs p) = (p, 0) := by
  obtain ⟨h1, h2, h3, h4, h5, h6, h7, h8⟩ := mayB_true.1 hm
  have c1 : ∀ x ∈ p.cells, valueB x.1 x.2 = true ∧ -9223372036854775808 ≤ x.2 ∧ x.2 ≤ 9223372036854775807 := fun x hx => ⟨getD_mem (P := fun x => valueB x.1 x.2 = true) h7 hx, hc x hx⟩
  have c2 : ∀ x ∈ p.code, InsOk x ∧ x.a ≤ 9223372036854775807 ∧ x.b ≤ 9223372036854775807 ∧ x.c ≤ 9223372036854775807 ∧ -9223372036854775808 ≤ x.k ∧ x.k ≤ 9223372036854775807 := fun x hx => ⟨of_decide_eq_true (getD_mem (P := fun x => insB x = true) h8 hx), hi x hx⟩
  have e : progBs p = typesBs p.ins ++ (typesBs p.outs ++ (digL 9 p.regs.toNat ++ (digL 9 p.cells.length ++ (p.cells.flatMap cellBs ++ (digL 9 p.code.length ++ (p.code.flatMap insBs ++ [])))))) := by
    unfold progBs headBs; simp [List.append_assoc]
  unfold decodeL
  rw [e]
  simp only [rTypes_dig h1]
  simp only [rTypes_dig h2]
  rw [rShort_dig (lo := 0) (hi := 1600) (by omega) (by omega) (by omega)]
  simp only
  rw [rShort_dig (lo := 0) (hi := 60) (by omega) (by omega) (by omega)]
  simp only
  rw [rCells_dig p.cells _ c1 p.cells.length (Nat.le_refl _)]
  simp only [List.drop_length, List.take_length, List.flatMap_nil, List.nil_append]
  rw [rShort_dig (lo := 0) (hi := 2048) (by omega) (by omega) (by omega)]
  simp only
  rw [rInstrs_dig p.code [] c2 p.code.length (Nat.le_refl _)]
  simp only [List.drop_length, List.take_length, List.flatMap_nil, List.nil_append]
  rw [needS_ok _ (by rfl)]
  simp only [ne_eq, not_true_eq_false, if_false]
  rw [show ((p.regs.toNat : Nat) : Int) = p.regs by omega]

/-! ### What was read has just these bytes -/
/-- The reader 'f' (from s to its state) has gone on without an error, and read 'bs'. -/
def Took (s s' : RS) (bs : List UInt8) : Prop := s.2 = 0 ∧ s.1 = bs ++ s'.1
theorem Took.trans {s t u : RS} {a b : List UInt8} (h : Took s t a) (k : Took t u b) : Took s u (a ++ b) := ⟨h.1, by rw [h.2, k.2, List.append_assoc]⟩
theorem rShort_took {lo hi : Nat} {s : RS} (h : (rShort lo hi s).2.2 = 0) : Took s (rShort lo hi s).2 (digL 9 (rShort lo hi s).1) ∧ lo ≤ (rShort lo hi s).1 ∧ (rShort lo hi s).1 ≤ hi ∧ (rShort lo hi s).1 < 9223372036854775808 := by
  unfold rShort at h ⊢
  by_cases h1 : s.2 ≠ 0
  · rw [if_pos h1] at h; exact absurd h h1
  rw [if_neg h1] at h ⊢
  by_cases h2 : (endsL 9 0 s.1).2 ≠ 0
  · rw [if_pos h2] at h; exact absurd h h2
  rw [if_neg h2] at h ⊢
  by_cases h3 : longV s.1 < lo ∨ hi < longV s.1
  · rw [if_pos h3] at h; simp at h
  rw [if_neg h3]
  have hz : (endsL 9 0 s.1).2 = 0 := by omega
  have hle := endsL_le 9 s.1 0 hz
  have hlt := sevL_lt (s.1.take (endsL 9 0 s.1).1)
  have hb : sevL (s.1.take (endsL 9 0 s.1).1) < 9223372036854775808 := by
    refine Nat.lt_of_lt_of_le hlt (Nat.le_trans (Nat.pow_le_pow_right (by omega) (show _ ≤ 9 by rw [List.length_take]; omega)) (by decide))
  have hv : longV s.1 = sevL (s.1.take (endsL 9 0 s.1).1) := by
    unfold longV readV
    rw [if_pos hz]
    exact Nat.mod_eq_of_lt hb
  refine ⟨⟨by omega, ?_⟩, by omega, by omega, by simp only; rw [hv]; exact hb⟩
  simp only
  rw [hv, (dig_sevL 9 s.1 0 (endsL 9 0 s.1).1 9 (by rw [Nat.zero_add]; exact Prod.ext rfl hz) (by omega)).1, List.take_append_drop]
theorem rZig_took {s : RS} (h : (rZig s).2.2 = 0) : Took s (rZig s).2 (digL 9 (zz (rZig s).1)) ∧ -9223372036854775808 ≤ (rZig s).1 ∧ (rZig s).1 ≤ 9223372036854775807 := by
  unfold rZig at h ⊢
  by_cases h1 : s.2 ≠ 0
  · rw [if_pos h1] at h; exact absurd h h1
  rw [if_neg h1] at h ⊢
  by_cases h2 : zagE s.1 ≠ 0
  · rw [if_pos h2] at h; exact absurd h h2
  rw [if_neg h2]
  have hz : zagE s.1 = 0 := by omega
  obtain ⟨e, b0, b1⟩ := zag_ed hz
  refine ⟨⟨by omega, ?_⟩, b0, b1⟩
  simp only
  rw [e, List.take_append_drop]
theorem needS_took {s : RS} {ok : Bool} {z : Nat} (hz : z ≠ 0) (h : (needS s ok z).2 = 0) : ok = true ∧ needS s ok z = s ∧ s.2 = 0 := by
  cases ok with
  | true => rw [needS_ok _ rfl] at h ⊢; exact ⟨rfl, rfl, h⟩
  | false =>
    unfold needS at h
    by_cases h1 : s.2 = 0
    · rw [if_pos ⟨rfl, h1⟩] at h; exact absurd h hz
    · rw [if_neg (fun q => h1 q.2)] at h; exact absurd h h1
theorem rByte_took {s : RS} (h : (rByte s).2.2 = 0) : Took s (rByte s).2 [UInt8.ofNat (rByte s).1] ∧ (rByte s).1 < 256 := by
  unfold rByte at h ⊢
  by_cases h1 : s.2 ≠ 0
  · rw [if_pos h1] at h; exact absurd h h1
  rw [if_neg h1] at h ⊢
  by_cases h2 : s.1 = []
  · rw [if_pos h2] at h; simp at h
  rw [if_neg h2]
  obtain ⟨bs, er⟩ := s
  cases bs with
  | nil => exact absurd rfl h2
  | cons b l =>
    refine ⟨⟨by simpa using h1, ?_⟩, byteAt_lt _ _⟩
    simp [byteAt]
theorem rKind_took {s : RS} (h : (rKind s).2.2 = 0) : Took s (rKind s).2 [UInt8.ofNat (rKind s).1] ∧ ((rKind s).1 = 1 ∨ (rKind s).1 = 2) := by
  unfold rKind at h ⊢
  obtain ⟨h1, h2, h3⟩ := needS_took (by omega) h
  simp only
  rw [h2]
  refine ⟨(rByte_took h3).1, ?_⟩
  unfold typeB at h1
  simpa using h1
theorem rKinds_took {s : RS} : ∀ n, (rKinds n s).2.2 = 0 → Took s (rKinds n s).2 ((rKinds n s).1.map (fun t => UInt8.ofNat t.toNat)) ∧ (rKinds n s).1.length = n ∧ ∀ t ∈ (rKinds n s).1, t = 1 ∨ t = 2 := by
  intro n
  induction n with
  | zero => intro h; exact ⟨⟨h, rfl⟩, rfl, fun t ht => by cases ht⟩
  | succ n ih =>
    intro h
    unfold rKinds at h ⊢
    obtain ⟨h1, h2⟩ := rKind_took h
    obtain ⟨h3, h4, h5⟩ := ih h1.1
    simp only
    refine ⟨?_, by simp [h4], fun t ht => ?_⟩
    · rw [List.map_append]
      exact h3.trans (by simpa using h1)
    · rcases List.mem_append.1 ht with q | q
      · exact h5 t q
      · have : t = ((rKind (rKinds n s).2).1 : Int) := by simpa using q
        omega
theorem rTypes_took {s : RS} (h : (rTypes s).2.2 = 0) : Took s (rTypes s).2 (typesBs (rTypes s).1) ∧ rightB (rTypes s).1 = true := by
  unfold rTypes at h ⊢
  obtain ⟨h1, h2, h3⟩ := rKinds_took _ h
  obtain ⟨k1, k2, k3, _⟩ := rShort_took h1.1
  refine ⟨?_, rightB_true.2 ⟨fun i hi => ?_, by omega, by omega⟩⟩
  · unfold typesBs
    rw [h2]
    exact k1.trans h1
  · refine h3 _ ?_
    unfold intAt
    rw [List.getD_eq_getElem?_getD, List.getElem?_eq_getElem hi]
    exact List.getElem_mem hi
theorem rCell_took {s : RS} (h : (rCell s).2.2 = 0) : Took s (rCell s).2 (cellBs (rCell s).1) ∧ valueB (rCell s).1.1 (rCell s).1.2 = true ∧ -9223372036854775808 ≤ (rCell s).1.2 ∧ (rCell s).1.2 ≤ 9223372036854775807 := by
  unfold rCell at h ⊢
  obtain ⟨h1, h2, h3⟩ := needS_took (by omega) h
  obtain ⟨z1, z2, z3⟩ := rZig_took h3
  obtain ⟨k1, k2⟩ := rKind_took z1.1
  simp only
  rw [h2]
  refine ⟨?_, h1, z2, z3⟩
  unfold cellBs
  exact k1.trans z1
theorem rCells_took {s : RS} : ∀ n, (rCells n s).2.2 = 0 → Took s (rCells n s).2 ((rCells n s).1.flatMap cellBs) ∧ (rCells n s).1.length = n ∧ ∀ x ∈ (rCells n s).1, valueB x.1 x.2 = true ∧ -9223372036854775808 ≤ x.2 ∧ x.2 ≤ 9223372036854775807 := by
  intro n
  induction n with
  | zero => intro h; exact ⟨⟨h, rfl⟩, rfl, fun t ht => by cases ht⟩
  | succ n ih =>
    intro h
    unfold rCells at h ⊢
    obtain ⟨h1, h2⟩ := rCell_took h
    obtain ⟨h3, h4, h5⟩ := ih h1.1
    simp only
    refine ⟨?_, by simp [h4], fun t ht => ?_⟩
    · rw [List.flatMap_append]
      exact h3.trans (by simpa using h1)
    · rcases List.mem_append.1 ht with q | q
      · exact h5 t q
      · have : t = (rCell (rCells n s).2).1 := by simpa using q
        rw [this]; exact h2
theorem rOpt_took {ok : Bool} {s : RS} (h : (rOpt ok s).2.2 = 0) : Took s (rOpt ok s).2 (if ok then digL 9 (rOpt ok s).1 else []) ∧ (rOpt ok s).1 < 9223372036854775808 ∧ (ok = false → (rOpt ok s).1 = 0) := by
  cases ok with
  | true =>
    obtain ⟨h1, _, _, h2⟩ := rShort_took (lo := 0) (hi := 9223372036854775807) (s := s) h
    exact ⟨h1, h2, fun e => by cases e⟩
  | false => exact ⟨⟨h, rfl⟩, by show 0 < _; omega, fun _ => rfl⟩
theorem rOptZ_took {ok : Bool} {s : RS} (h : (rOptZ ok s).2.2 = 0) : Took s (rOptZ ok s).2 (if ok then digL 9 (zz (rOptZ ok s).1) else []) ∧ (-9223372036854775808 ≤ (rOptZ ok s).1 ∧ (rOptZ ok s).1 ≤ 9223372036854775807) ∧ (ok = false → (rOptZ ok s).1 = 0) := by
  cases ok with
  | true =>
    obtain ⟨h1, h2⟩ := rZig_took (s := s) h
    exact ⟨h1, h2, fun e => by cases e⟩
  | false => exact ⟨⟨h, rfl⟩, by show -9223372036854775808 ≤ (0 : Int) ∧ (0 : Int) ≤ 9223372036854775807; omega, fun _ => rfl⟩
def InsWf (x : Ins) : Prop := 0 ≤ x.a ∧ x.a ≤ 9223372036854775807 ∧ 0 ≤ x.b ∧ x.b ≤ 9223372036854775807 ∧ 0 ≤ x.c ∧ x.c ≤ 9223372036854775807 ∧ -9223372036854775808 ≤ x.k ∧ x.k ≤ 9223372036854775807
theorem rInstr_took {s : RS} (h : (rInstr s).2.2 = 0) : Took s (rInstr s).2 (insBs (rInstr s).1) ∧ InsOk (rInstr s).1 ∧ InsWf (rInstr s).1 := by
  unfold rInstr at h ⊢
  simp only at h ⊢
  obtain ⟨k1, k2, k3⟩ := rOptZ_took h
  obtain ⟨c1, c2, c3⟩ := rOpt_took k1.1
  obtain ⟨b1, b2, b3⟩ := rOpt_took c1.1
  obtain ⟨a1, _, _, a2⟩ := rShort_took b1.1
  have a0 := a1.1
  unfold rOp at a0
  obtain ⟨o1, o2, o3⟩ := needS_took (by omega) a0
  obtain ⟨y1, y2⟩ := rByte_took o3
  have oT : Took s (rOp s).2 [UInt8.ofNat (rOp s).1] := by unfold rOp; simp only; rw [o2]; exact y1
  have oc : cls ((rOp s).1 : Int) ≠ 0 := by
    have : decide (cls ((rByte s).1 : Int) ≠ 0) = true := o1
    exact of_decide_eq_true this
  generalize rOp s = O at *
  generalize rShort 0 9223372036854775807 O.2 = A at *
  generalize rOpt (decide (2 ≤ cls O.1)) A.2 = B at *
  generalize rOpt (decide (3 ≤ cls O.1)) B.2 = C at *
  generalize rOptZ (decide (cls O.1 = 1 ∨ cls O.1 = 4)) C.2 = K at *
  have hcl := cls_le (O.1 : Int)
  refine ⟨?_, ⟨oc, by simp only; omega, by simp only; omega, by simp only; omega, fun q => ?_, fun q => ?_, fun q => ?_⟩, ⟨by simp only; omega, by simp only; omega, by simp only; omega, by simp only; omega, by simp only; omega, by simp only; omega, k2.1, k2.2⟩⟩
  · have := oT.trans (a1.trans (b1.trans (c1.trans k1)))
    unfold insBs
    simp only [Int.toNat_natCast]
    have hK : hasK (O.1 : Int) = decide (cls (O.1 : Int) = 1 ∨ cls (O.1 : Int) = 4) := by unfold hasK; by_cases q1 : cls (O.1 : Int) = 1 <;> by_cases q2 : cls (O.1 : Int) = 4 <;> simp [q1, q2]
    rw [hK]
    simpa using this
  · simp only at q ⊢; rw [b3 (by simp [q])]; rfl
  · simp only at q ⊢; rw [c3 (by simp; omega)]; rfl
  · simp only at q ⊢; exact k3 (by simp; omega)
theorem rInstrs_took {s : RS} : ∀ n, (rInstrs n s).2.2 = 0 → Took s (rInstrs n s).2 ((rInstrs n s).1.flatMap insBs) ∧ (rInstrs n s).1.length = n ∧ ∀ x ∈ (rInstrs n s).1, InsOk x ∧ InsWf x := by
  intro n
  induction n with
  | zero => intro h; exact ⟨⟨h, rfl⟩, rfl, fun t ht => by cases ht⟩
  | succ n ih =>
    intro h
    unfold rInstrs at h ⊢
    obtain ⟨h1, h2⟩ := rInstr_took h
    obtain ⟨h3, h4, h5⟩ := ih h1.1
    simp only
    refine ⟨?_, by simp [h4], fun t ht => ?_⟩
    · rw [List.flatMap_append]
      exact h3.trans (by simpa using h1)
    · rcases List.mem_append.1 ht with q | q
      · exact h5 t q
      · have : t = (rInstr (rInstrs n s).2).1 := by simpa using q
        rw [this]; exact h2
theorem dec_end (e : Nat) (x : PV) : ((if e ≠ 0 then (noProg, e) else (x, 0) : PV × Nat).2 ≠ 0 ∧ (if e ≠ 0 then (noProg, e) else (x, 0) : PV × Nat).1 = noProg) ∨ (if e ≠ 0 then (noProg, e) else (x, 0) : PV × Nat).2 = 0 := by
  by_cases q : e ≠ 0
  · rw [if_pos q]; exact .inl ⟨q, rfl⟩
  · rw [if_neg q]; exact .inr rfl
theorem decode_cases (bs : List UInt8) : ((decodeL bs).2 ≠ 0 ∧ (decodeL bs).1 = noProg) ∨ (decodeL bs).2 = 0 := by
  unfold decodeL
  simp only
  generalize rTypes (bs, 0) = I
  generalize rTypes I.2 = O
  generalize rShort 0 1600 O.2 = R
  generalize rShort 0 60 R.2 = N
  generalize rCells N.1 N.2 = C
  generalize rShort 0 2048 C.2 = M
  generalize rInstrs M.1 M.2 = J
  exact dec_end _ _
theorem getD_of_mem {α : Type} {l : List α} {d : α} {P : α → Prop} (h : ∀ x ∈ l, P x) (i : Nat) (hi : i < l.length) : P (l.getD i d) := by
  rw [List.getD_eq_getElem?_getD, List.getElem?_eq_getElem hi]; exact h _ (List.getElem_mem hi)
set_option maxHeartbeats 1000000 in
theorem bytes_decode {bs : List UInt8} (h : (decodeL bs).2 = 0) : mayB (decodeL bs).1 = true ∧ progBs (decodeL bs).1 = bs ∧
    (∀ x ∈ (decodeL bs).1.cells, -9223372036854775808 ≤ x.2 ∧ x.2 ≤ 9223372036854775807) ∧ (∀ x ∈ (decodeL bs).1.code, InsWf x) := by
  unfold decodeL at h ⊢
  simp only at h ⊢
  have hi : ∀ s, (rTypes s).2.2 = 0 → Took s (rTypes s).2 (typesBs (rTypes s).1) ∧ rightB (rTypes s).1 = true := fun s h => rTypes_took h
  have hs : ∀ lo hi s, (rShort lo hi s).2.2 = 0 → _ := fun lo hi s h => rShort_took (lo := lo) (hi := hi) (s := s) h
  have t1 := hi (bs, 0)
  generalize rTypes (bs, 0) = I at *
  have t2 := hi I.2
  generalize rTypes I.2 = O at *
  have t3 := hs 0 1600 O.2
  generalize rShort 0 1600 O.2 = R at *
  have t4 := hs 0 60 R.2
  generalize rShort 0 60 R.2 = N at *
  have t5 := rCells_took (s := N.2) N.1
  generalize rCells N.1 N.2 = C at *
  have t6 := hs 0 2048 C.2
  generalize rShort 0 2048 C.2 = M at *
  have t7 := rInstrs_took (s := M.2) M.1
  generalize rInstrs M.1 M.2 = J at *
  clear hi hs
  by_cases q : (needS J.2 (decide (J.2.1.length = 0)) 12).2 ≠ 0
  · rw [if_pos q] at h; exact absurd h q
  rw [if_neg q]
  have q0 : (needS J.2 (decide (J.2.1.length = 0)) 12).2 = 0 := by omega
  obtain ⟨n1, n2, n3⟩ := needS_took (by omega) q0
  have hnil : J.2.1 = [] := List.eq_nil_of_length_eq_zero (of_decide_eq_true n1)
  obtain ⟨a7, l7, p7⟩ := t7 n3
  obtain ⟨a6, _, b6, _⟩ := t6 a7.1
  obtain ⟨a5, l5, p5⟩ := t5 a6.1
  obtain ⟨a4, _, b4, _⟩ := t4 a5.1
  obtain ⟨a3, _, b3, _⟩ := t3 a4.1
  obtain ⟨a2, p2⟩ := t2 a3.1
  obtain ⟨a1, p1⟩ := t1 a2.1
  have hall := a1.trans (a2.trans (a3.trans (a4.trans (a5.trans (a6.trans a7)))))
  refine ⟨mayB_true.2 ⟨p1, p2, by simp only; omega, by simp only; omega, by simp only; omega, by simp only; omega, fun i hi => ?_, fun i hi => ?_⟩, ?_, fun x hx => (p5 x hx).2, fun x hx => (p7 x hx).2⟩
  · exact getD_of_mem (P := fun x => valueB x.1 x.2 = true) (fun x hx => (p5 x hx).1) i hi
  · exact getD_of_mem (P := fun x => insB x = true) (fun x hx => decide_eq_true (p7 x hx).1) i hi
  · have he : ∀ (a b c d e f g : List UInt8), a ++ b ++ c ++ d ++ e ++ f ++ g = a ++ (b ++ (c ++ (d ++ (e ++ (f ++ g))))) := fun a b c d e f g => by simp only [List.append_assoc]
    have hb := hall.2
    clear hall t1 t2 t3 t4 t5 t6 t7 a1 a2 a3 a4 a5 a6 a7
    rw [hnil, List.append_nil] at hb
    have hx : progBs ⟨I.1, O.1, R.1, C.1, J.1⟩ = typesBs I.1 ++ typesBs O.1 ++ digL 9 R.1 ++ digL 9 N.1 ++ C.1.flatMap cellBs ++ digL 9 M.1 ++ J.1.flatMap insBs := by
      show typesBs I.1 ++ typesBs O.1 ++ digL 9 (Int.toNat ((R.1 : Nat) : Int)) ++ digL 9 C.1.length ++ C.1.flatMap cellBs ++ digL 9 J.1.length ++ J.1.flatMap insBs = _
      rw [Int.toNat_natCast, l5, l7]
    rw [hx, he]
    exact hb.symm
end Go.Proofs.Ytkhihgilodhjfaa
