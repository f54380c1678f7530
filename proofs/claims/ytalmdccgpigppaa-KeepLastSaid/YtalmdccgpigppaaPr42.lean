/- Parts: VerifyA, Sign. -/
import Derived.Test.YtalmdccgpigppaaPr36
import Derived.Test.YtalmdccgpigppaaPr06
import Derived.WalkKit
import Derived.WalkSpells
import Derived.WalkLawsBesides
namespace Go.Proofs.Ytalmdccgpigppaa
open Go.RowKit
set_option linter.unusedVariables false
set_option linter.unusedSimpArgs false
def bo (b : Bool) : Value := .bool b
def lkC (x : PA) (p : PV) (K : Option Addr) (nk ck : Nat) (O : Option Addr) (no co : Nat) (past : Int) (bad : Bool) : List Value :=
  [.slice x.A1 x.n1 x.c1, .slice x.A2 x.n2 x.c2, .int .i64 p.regs, .slice x.A3 x.n3 x.c3, .slice x.A4 x.n4 x.c4, .slice K nk ck, .slice O no co, .int .i64 past, .bool bad]
/-- The looker. -/
def LkAt (w : World) (base g : Nat) (x : PA) (p : PV) (s : LkV) : Prop :=
  ∃ K nk ck O no co, Blk w g 188 (lkC x p K nk ck O no co s.past s.bad) ∧ base ≤ g ∧ Ow iv w base 3 K nk ck s.kinds ∧ Ow bo w base 4 O no co s.outs
theorem lkblk {α : Type} {enc : α → Value} {w : World} {base n c g : Nat} {t : TypeId} {A : Option Addr} {l : List α} (h : Ow enc w base t A n c l) (hg : A.map (·.block) = some g) : ∃ cs, Blk w g t cs := by
  rcases h.2.2 with ⟨hv, _⟩ | ⟨g', cap, cur, hv, _, hh, _⟩
  · injection hv with hv; subst hv; cases hg
  · injection hv with hv
    subst hv
    simp only [Option.map_some, Option.some.injEq] at hg
    subst hg
    exact ⟨cur.toList, by unfold Blk; rw [hh]⟩
section
variable {w w' : World} {base g : Nat} {x : PA} {p : PV} {s : LkV}
def lkMut : List TypeId := [188, 3, 4]
/-- Blocks of other types are kept. -/
def Stay (w w' : World) : Prop := ∀ g t cs, t ∉ lkMut → Blk w g t cs → Blk w' g t cs
theorem Stay.refl (w : World) : Stay w w := fun _ _ _ _ h => h
theorem Stay.trans {w1 w2 w3 : World} (h : Stay w1 w2) (k : Stay w2 w3) : Stay w1 w3 := fun g t cs ht hb => k g t cs ht (h g t cs ht hb)
theorem Stay.set {g : Nat} {t : TypeId} {cs : List Value} (hb : Blk w g t cs) (ht : t ∈ lkMut) (i : Nat) (u : Value) : Stay w (w.setCell ⟨g, i, none⟩ u) := fun g' t' cs' ht' hb' => hb'.far (p := ⟨g, i, none⟩) (fun e => hb'.ne_ hb (fun e' => ht' (by rw [e']; exact ht)) e) _
theorem Stay.of_below (hb : Below w.heap.size w w') : Stay w w' := fun g t cs _ h => h.below hb h.lt
/-- Nothing below base is changed, and the looker is another. -/
def LkPost (w : World) (base g : Nat) (x : PA) (p : PV) (s' : LkV) (v : Option Int) (e : Ending) (w' : World) : Prop :=
  e = .returned (match v with | none => .tuple #[] | some n => .int .i64 n) ∧ LkAt w' base g x p s' ∧ Below base w w' ∧ Stay w w'
theorem lkneed_any (h : LkAt w base g x p s) (b : Bool) : Calls Try.prog 140 #[.pointer (some ⟨g, 0, none⟩), .bool b] w (LkPost w base g x p (needV s b) none) := by
  obtain ⟨K, nk, ck, O, no, co, hb, hg, hk, ho⟩ := h
  have c8 : w.cell? ⟨g, 8, none⟩ = some (.bool s.bad) := hb.cell 8
  have f8 := hb.frozen 8
  have hl := hb.lt
  have HB := Lib.hid hb
  have HK := Lib.hid hk
  have HO := Lib.hid ho
  clear hb hk ho
  cases hs : s.bad with
  | true =>
    rw [hs] at c8
    go_enter Try.func140, Try.ntmps140
    go_wp2
    go_end0
    refine ⟨rfl, ⟨K, nk, ck, O, no, co, ?_, hg, HK.out.setFar HB.out (by decide) 8 _, HO.out.setFar HB.out (by decide) 8 _⟩, (Below.refl _ _).setCell hg _, Stay.set HB.out (by decide) _ _⟩
    have := HB.out.set_ 8 (.bool true)
    simpa [lkC, needV, hs] using this
  | false =>
    rw [hs] at c8
    go_enter Try.func140, Try.ntmps140
    go_wp2
    go_end0
    refine ⟨rfl, ⟨K, nk, ck, O, no, co, ?_, hg, HK.out.setFar HB.out (by decide) 8 _, HO.out.setFar HB.out (by decide) 8 _⟩, (Below.refl _ _).setCell hg _, Stay.set HB.out (by decide) _ _⟩
    have := HB.out.set_ 8 (.bool (!b))
    simpa [lkC, needV, hs] using this
theorem lktakes_any (h : LkAt w base g x p s) (n : Int) : Calls Try.prog 141 #[.pointer (some ⟨g, 0, none⟩), .int .i64 n] w (LkPost w base g x p (takesV s n).1 (some (takesV s n).2)) := by
  obtain ⟨K, nk, ck, O, no, co, hb, hg, hk, ho⟩ := h
  have c5 : w.cell? ⟨g, 5, none⟩ = some (.slice K nk ck) := hb.cell 5
  have c8 : w.cell? ⟨g, 8, none⟩ = some (.bool s.bad) := hb.cell 8
  have f8 := hb.frozen 8
  have hl := hb.lt
  have hkl : s.kinds.length = nk := hk.1
  have HB := Lib.hid hb
  have HK := Lib.hid hk
  have HO := Lib.hid ho
  have HKL := Lib.hid hkl
  have hbad : ∀ W, W = w.setCell ⟨g, 8, none⟩ (.bool true) → LkPost w base g x p { s with bad := true } (some 0) (.returned (.int .i64 0)) W := fun W e => by
    subst e
    refine ⟨rfl, ⟨K, nk, ck, O, no, co, ?_, hg, HK.out.setFar HB.out (by decide) 8 _, HO.out.setFar HB.out (by decide) 8 _⟩, (Below.refl _ _).setCell hg _, Stay.set HB.out (by decide) _ _⟩
    have := HB.out.set_ 8 (.bool true)
    simpa [lkC] using this
  have HBAD := Lib.hid hbad
  unfold takesV
  rw [hkl]
  clear hb hk ho hbad hkl
  by_cases h1 : n < 0
  · rw [if_pos (.inl h1)]
    go_enter Try.func141, Try.ntmps141
    go_wp2
    go_ret
    exact HBAD.out _ rfl
  by_cases h2 : (nk : Int) ≤ n
  · rw [if_pos (.inr (.inl h2))]
    go_enter Try.func141, Try.ntmps141
    go_wp2
    go_ret
    exact HBAD.out _ rfl
  obtain ⟨m, rfl⟩ : ∃ m : Nat, n = m := ⟨n.toNat, by omega⟩
  have hm : m < nk := by omega
  obtain ⟨b1, o1, hK, hb1, hc⟩ := HK.out.rd.2.at_ hm
  have hml : m < s.kinds.length := by rw [HKL.out]; exact hm
  rw [getD_map s.kinds m hml] at hc
  have hka : kAt s.kinds (m : Int) = s.kinds[m] := by
    unfold kAt
    rw [if_neg (by omega), Int.toNat_natCast, List.getD_eq_getElem?_getD, List.getElem?_eq_getElem hml]; rfl
  rw [hka]
  generalize s.kinds[m] = kk at *
  have hcc : w.cell? ⟨b1, o1 + m, none⟩ = some (.int .i64 kk) := hc
  clear hc hka hml
  have SK := Lib.hid hK
  by_cases h3 : kk = 0
  · subst h3
    rw [if_pos (.inr (.inr rfl))]
    subst hK
    go_enter Try.func141, Try.ntmps141
    go_wp2
    go_ret
    exact HBAD.out _ rfl
  · have hne : (kk == 0) = false := by rw [beq_eq_false_iff_ne]; exact h3
    rw [if_neg (by omega)]
    clear h3
    subst hK
    go_enter Try.func141, Try.ntmps141
    go_wp2
    go_ret
    exact ⟨rfl, ⟨_, nk, ck, O, no, co, HB.out, hg, HK.out, HO.out⟩, Below.refl _ _, Stay.refl _⟩
theorem lkgives_any (h : LkAt w base g x p s) (n kind : Int) : Calls Try.prog 139 #[.pointer (some ⟨g, 0, none⟩), .int .i64 n, .int .i64 kind] w (LkPost w base g x p (givesV s n kind) none) := by
  obtain ⟨K, nk, ck, O, no, co, hb, hg, hk, ho⟩ := h
  have c5 : w.cell? ⟨g, 5, none⟩ = some (.slice K nk ck) := hb.cell 5
  have c8 : w.cell? ⟨g, 8, none⟩ = some (.bool s.bad) := hb.cell 8
  have f8 := hb.frozen 8
  have hl := hb.lt
  have hkl : s.kinds.length = nk := hk.1
  have HB := Lib.hid hb
  have HK := Lib.hid hk
  have HO := Lib.hid ho
  have HKL := Lib.hid hkl
  have hbad : ∀ W, W = w.setCell ⟨g, 8, none⟩ (.bool true) → LkPost w base g x p { s with bad := true } none (.returned (.tuple #[])) W := fun W e => by
    subst e
    refine ⟨rfl, ⟨K, nk, ck, O, no, co, ?_, hg, HK.out.setFar HB.out (by decide) 8 _, HO.out.setFar HB.out (by decide) 8 _⟩, (Below.refl _ _).setCell hg _, Stay.set HB.out (by decide) _ _⟩
    have := HB.out.set_ 8 (.bool true)
    simpa [lkC] using this
  have HBAD := Lib.hid hbad
  unfold givesV
  rw [hkl]
  clear hb hk ho hbad hkl
  by_cases h1 : n < 0
  · rw [if_pos (.inl h1)]
    go_enter Try.func139, Try.ntmps139
    go_wp2
    go_end0
    exact HBAD.out _ rfl
  by_cases h2 : (nk : Int) ≤ n
  · rw [if_pos (.inr (.inl h2))]
    go_enter Try.func139, Try.ntmps139
    go_wp2
    go_end0
    exact HBAD.out _ rfl
  obtain ⟨m, rfl⟩ : ∃ m : Nat, n = m := ⟨n.toNat, by omega⟩
  have hm : m < nk := by omega
  obtain ⟨gk, hK, hgk, hgl⟩ := HK.out.addr (by omega)
  obtain ⟨b1, o1, hK1, hb1, hc⟩ := HK.out.rd.2.at_ hm
  rw [hK] at hK1
  injection hK1 with hK1
  injection hK1 with q1 q2 _
  subst q1 q2
  have hml : m < s.kinds.length := by rw [HKL.out]; exact hm
  rw [getD_map s.kinds m hml, Nat.zero_add] at hc
  have hka : kAt s.kinds (m : Int) = s.kinds[m] := by
    unfold kAt
    rw [if_neg (by omega), Int.toNat_natCast, List.getD_eq_getElem?_getD, List.getElem?_eq_getElem hml]; rfl
  rw [hka]
  generalize s.kinds[m] = kk at *
  have hcc : w.cell? ⟨gk, m, none⟩ = some (.int .i64 kk) := hc
  have fm := (show Ow iv w base 3 (some ⟨gk, 0, none⟩) nk ck s.kinds from hK ▸ HK.out).free m
  have hne9 : gk ≠ g := fun e => by
    subst e
    obtain ⟨cs, hbk⟩ := lkblk (g := gk) HK.out (by rw [hK]; rfl)
    exact hbk.ne_ HB.out (by decide) rfl
  clear hc hka hml
  by_cases h3 : kk = 0
  · subst h3
    rw [if_neg (by omega)]
    subst hK
    go_enter Try.func139, Try.ntmps139
    go_wp2
    go_end0
    obtain ⟨cs, hbk⟩ := lkblk (g := gk) HK.out rfl
    exact ⟨rfl, ⟨_, nk, ck, O, no, co, HB.out.far (p := ⟨gk, m, none⟩) (fun e => hne9 e.symm) _, hg, HK.out.set m kind _ rfl, HO.out.setFar hbk (by decide) m _⟩, (Below.refl _ _).setCell hgk _, Stay.set hbk (by decide) _ _⟩
  · have hne : (kk != 0) = true := by rw [bne_iff_ne]; exact h3
    rw [if_pos (.inr (.inr h3))]
    clear h3
    subst hK
    go_enter Try.func139, Try.ntmps139
    go_wp2
    go_end0
    exact HBAD.out _ rfl
theorem lkone_any (h : LkAt w base g x p s) (L : Option Addr) (nl cl : Nat) (l : List Int) (hL : RI w L nl l) (n : Int) : Calls Try.prog 143 #[.pointer (some ⟨g, 0, none⟩), .slice L nl cl, .int .i64 n] w (LkPost w base g x p (oneV s l n).1 (some (oneV s l n).2)) := by
  have hLK := h
  obtain ⟨K, nk, ck, O, no, co, hb, hg, hk, ho⟩ := h
  have c8 : w.cell? ⟨g, 8, none⟩ = some (.bool s.bad) := hb.cell 8
  have f8 := hb.frozen 8
  have hl := hb.lt
  have hll := hL.1
  have HB := Lib.hid hb
  have HK := Lib.hid hk
  have HO := Lib.hid ho
  have HLK := Lib.hid hLK
  have hbad : ∀ W, W = w.setCell ⟨g, 8, none⟩ (.bool true) → LkPost w base g x p { s with bad := true } (some 0) (.returned (.int .i64 0)) W := fun W e => by
    subst e
    refine ⟨rfl, ⟨K, nk, ck, O, no, co, ?_, hg, HK.out.setFar HB.out (by decide) 8 _, HO.out.setFar HB.out (by decide) 8 _⟩, (Below.refl _ _).setCell hg _, Stay.set HB.out (by decide) _ _⟩
    have := HB.out.set_ 8 (.bool true)
    simpa [lkC] using this
  have HBAD := Lib.hid hbad
  unfold oneV
  rw [hll]
  clear hb hk ho hbad hLK
  by_cases h1 : n < 0
  · rw [if_pos (.inl h1)]
    go_enter Try.func143, Try.ntmps143
    go_wp2
    go_ret
    exact HBAD.out _ rfl
  by_cases h2 : (nl : Int) ≤ n
  · rw [if_pos (.inr h2)]
    go_enter Try.func143, Try.ntmps143
    go_wp2
    go_ret
    exact HBAD.out _ rfl
  rw [if_neg (by omega)]
  obtain ⟨m, rfl⟩ : ∃ m : Nat, n = m := ⟨n.toNat, by omega⟩
  obtain ⟨b1, o1, hL1, hb1, hc⟩ := hL.at_ (k := m) (by omega)
  have hka : kAt l (m : Int) = intAt l m := by
    unfold kAt intAt
    rw [if_neg (by omega), Int.toNat_natCast]
  rw [hka]
  subst hL1
  go_enter Try.func143, Try.ntmps143
  go_wp2
  go_ret
  exact ⟨rfl, HLK.out, Below.refl _ _, Stay.refl _⟩
theorem lkcell_any (h : LkAt w base g x p s) (hp : ProgRd w x p) (n : Int) : Calls Try.prog 142 #[.pointer (some ⟨g, 0, none⟩), .int .i64 n] w (LkPost w base g x p (cellV p s n).1 (some (cellV p s n).2)) := by
  have hLK := h
  obtain ⟨K, nk, ck, O, no, co, hb, hg, hk, ho⟩ := h
  have c3 : w.cell? ⟨g, 3, none⟩ = some (.slice x.A3 x.n3 x.c3) := hb.cell 3
  have c8 : w.cell? ⟨g, 8, none⟩ = some (.bool s.bad) := hb.cell 8
  have f8 := hb.frozen 8
  have hl := hb.lt
  have hll := hp.r3.1
  have HB := Lib.hid hb
  have HK := Lib.hid hk
  have HO := Lib.hid ho
  have HLK := Lib.hid hLK
  have HP := Lib.hid hp
  have hbad : ∀ W, W = w.setCell ⟨g, 8, none⟩ (.bool true) → LkPost w base g x p { s with bad := true } (some 0) (.returned (.int .i64 0)) W := fun W e => by
    subst e
    refine ⟨rfl, ⟨K, nk, ck, O, no, co, ?_, hg, HK.out.setFar HB.out (by decide) 8 _, HO.out.setFar HB.out (by decide) 8 _⟩, (Below.refl _ _).setCell hg _, Stay.set HB.out (by decide) _ _⟩
    have := HB.out.set_ 8 (.bool true)
    simpa [lkC] using this
  have HBAD := Lib.hid hbad
  unfold cellV
  rw [hll]
  clear hb hk ho hbad hLK hp
  by_cases h1 : n < 0
  · rw [if_pos (.inl h1)]
    go_enter Try.func142, Try.ntmps142
    go_wp2
    go_ret
    exact HBAD.out _ rfl
  by_cases h2 : (x.n3 : Int) ≤ n
  · rw [if_pos (.inr h2)]
    go_enter Try.func142, Try.ntmps142
    go_wp2
    go_ret
    exact HBAD.out _ rfl
  rw [if_neg (by omega)]
  obtain ⟨m, rfl⟩ : ∃ m : Nat, n = m := ⟨n.toNat, by omega⟩
  obtain ⟨b, o, y, hA, hbl, hx, hc⟩ := HP.out.r3.at_ cellE_len (by omega) (show m < x.n3 by omega)
  have h0 : w.cell? ⟨b, o + m * 2, none⟩ = some (.int .i64 y.1) := hc 0 (by omega)
  rw [Int.toNat_natCast, cellAt_get hx]
  rw [hA] at c3
  clear hc hx
  go_enter Try.func142, Try.ntmps142
  go_wp2
  go_ret
  exact ⟨rfl, HLK.out, Below.refl _ _, Stay.refl _⟩
end
end Go.Proofs.Ytalmdccgpigppaa
namespace Go.Proofs.Ytalmdccgpigppaa
open Go.RowKit
set_option linter.unusedVariables false
set_option linter.unusedSimpArgs false
def sgn3 (op : Int) : Int × Int × Bool := if isSign op then (signIn op, signOut op, true) else (0, 0, false)
theorem sign_cases (op : Int) : (op = 5 ∨ op = 6 ∨ op = 7 ∨ op = 8 ∨ op = 9 ∨ op = 10 ∨ op = 11 ∨ op = 12 ∨ op = 13 ∨ op = 14 ∨ op = 15 ∨ op = 16 ∨ op = 17 ∨ op = 18 ∨ op = 19 ∨ op = 20) ∨ (op < 5 ∨ 20 < op) := by omega
theorem sgn3_no {op : Int} (h : op < 5 ∨ 20 < op) : sgn3 op = (0, 0, false) := by
  unfold sgn3 isSign
  rw [decide_eq_false (by omega)]; rfl
set_option maxRecDepth 100000 in
set_option maxHeartbeats 4000000 in
theorem sign_any (op : Int) (w : World) : Calls Try.prog 137 #[.int .i64 op] w fun e w' => e = .returned (.tuple #[.int .i64 (sgn3 op).1, .int .i64 (sgn3 op).2.1, .bool (sgn3 op).2.2]) ∧ w = w' := by
  rcases sign_cases op with h | h
  · rcases h with rfl | rfl | rfl | rfl | rfl | rfl | rfl | rfl | rfl | rfl | rfl | rfl | rfl | rfl | rfl | rfl
    all_goals
      go_enter Try.func137, Try.ntmps137
      go_wp2
      go_ret3
      exact ⟨rfl, rfl⟩
  · rw [sgn3_no h]
    have b5 : (op == 5) = false := by rw [beq_eq_false_iff_ne]; omega
    have b6 : (op == 6) = false := by rw [beq_eq_false_iff_ne]; omega
    have b7 : (op == 7) = false := by rw [beq_eq_false_iff_ne]; omega
    have b8 : (op == 8) = false := by rw [beq_eq_false_iff_ne]; omega
    have b9 : (op == 9) = false := by rw [beq_eq_false_iff_ne]; omega
    have b10 : (op == 10) = false := by rw [beq_eq_false_iff_ne]; omega
    have b11 : (op == 11) = false := by rw [beq_eq_false_iff_ne]; omega
    have b12 : (op == 12) = false := by rw [beq_eq_false_iff_ne]; omega
    have b13 : (op == 13) = false := by rw [beq_eq_false_iff_ne]; omega
    have b14 : (op == 14) = false := by rw [beq_eq_false_iff_ne]; omega
    have b15 : (op == 15) = false := by rw [beq_eq_false_iff_ne]; omega
    have b16 : (op == 16) = false := by rw [beq_eq_false_iff_ne]; omega
    have b17 : (op == 17) = false := by rw [beq_eq_false_iff_ne]; omega
    have b18 : (op == 18) = false := by rw [beq_eq_false_iff_ne]; omega
    have b19 : (op == 19) = false := by rw [beq_eq_false_iff_ne]; omega
    have b20 : (op == 20) = false := by rw [beq_eq_false_iff_ne]; omega
    clear h
    go_enter Try.func137, Try.ntmps137
    go_wp2
    go_ret3
    exact ⟨rfl, rfl⟩
end Go.Proofs.Ytalmdccgpigppaa
