/- Parts: JrnA, JrnB, PlainSlots, JrnC, PlainArea, DiskO, JrnD, Lists. -/
import Derived.Test.YtpmkpckldnnigaaGreatPr19
import Derived.Deep.RegionHeld3
import Derived.Test.YtpmkpckldnnigaaGreatPr02
import Derived.Test.YtpmkpckldnnigaaGreatPr18
import Derived.Test.YtpmkpckldnnigaaGreatPr01
set_option linter.unusedVariables false
set_option linter.unusedSimpArgs false
set_option maxRecDepth 100000
set_option maxHeartbeats 40000000
namespace Go.Proofs.YtpmkpckldnnigaaGreat
open Go.RowKit
section
variable {w w' : World} {base ga gj f m next : Nat} {kind : Int} {p : qe3} {D : qa3}
end
theorem qc4.grown {α : Type} {enc : α → Value} {w w' : World} {base b n c : Nat} {e : TypeId} {B : Option Addr} {p : qe3} {D : qa3} {l : List α} (h : qc4 w base p D) (ho : Ow enc w b e B n c l) (hg : w.grownBy w' (B.map (·.block))) (ht : e ∉ 4 :: mutD) : qc4 w' base p D := by
  obtain ⟨A, a, h⟩ := h; refine ⟨A, a, h.keep (F := fun g => B.map (·.block) = some g) (Keep.of_grown hg (fun g e => e)) (fun g hf he => ?_)⟩; rcases ho.2.2 with ⟨hv, _⟩ | ⟨g', cap, cur, hv, _, hh, _⟩
  · injection hv with hv; subst hv; cases he
  · injection hv with hv; subst hv; simp only [Option.map_some, Option.some.injEq] at he; subst he; rcases h.foot_ty (t := e) (cs := cur.toList) (by unfold Blk; rw [hh]) hf with q | q | q | q | q
    all_goals exact ht (by rw [q]; decide)
theorem Step.then_below {M : List TypeId} {w w1 w2 : World} {base : Nat} {p : qe3} (h : Step M base p w w1) (hb : Below w.heap.size w1 w2) (hs : base ≤ w.heap.size) : Step M base p w w2 := by
  obtain ⟨h1, F, hF, tF⟩ := h; refine ⟨h1.trans (hb.mono hs), F, ⟨hb.os.trans hF.os, hb.tape.trans hF.tape, hb.output.trans hF.output, Nat.le_trans hF.size hb.size, fun k hk hn => (hb.block k hk).trans (hF.block k hk hn)⟩, tF⟩
def rdK (D : qa3) : Nat → qa3
  | 0 => D
  | k + 1 => qt1 (rdK D k)
theorem vd7 (D : qa3) : ∀ k, ∃ o, rdK D k = { D with ops := o } := by
  intro k
  induction k with
  | zero => exact ⟨D.ops, rfl⟩
  | succ k ih => obtain ⟨o, e⟩ := ih; exact ⟨mAdd o 1 1, by show qt1 (rdK D k) = _; rw [e]; rfl⟩
section
variable {w w' : World} {base ga gj f m : Nat} {kind : Int} {p : qe3} {D : qa3}
theorem onRead {D : qa3} (h : D.off = false) {f m k : Nat} (hfm : f + m ≤ D.many) (hk : k < m) : qe1 D f m (k : Int) = (qt1 D, qc7 D.now ((f + k : Nat) : Int), 0) := by
  unfold qe1 qn3; have hm : mayV D ((f : Int) + k) = 0 := by unfold mayV; rw [h]; simp; omega
  rw [if_neg omg, hm, if_neg smp]; rw [show ((f : Int) + (k : Int)) = ((f + k : Nat) : Int) by omega]
end
def sumL (l : List UInt8) : List UInt8 := le4 (qh4 [l])
def qi0 (n : Nat) : Nat := (n + 127) / 128
def qp6 (now : List UInt8) (f : Nat) : Nat → List UInt8
  | 0 => []
  | k + 1 => qp6 now f k ++ qc7 now ((f + (1 + k) : Nat) : Int)
theorem bodyL_len {now : List UInt8} {s f : Nat} (h : now.length = s * 128) : ∀ k, f + (1 + k) ≤ s → (qp6 now f k).length = k * 128 := by
  intro k
  induction k with
  | zero => intro _; rfl
  | succ k ih =>
    intro hk; unfold qp6; rw [List.length_append, ih omg, qh8 h omg omg]; omega
def vf9 (L : List UInt8) : Int := sg (getL (L.take 8))
def qb2 (D : qa3) (f m : Nat) : qa3 × List UInt8 × Int × Int :=
  if (qg3 D f m 0 2).2.2 ≠ 0 then ((qe1 D f m 0).1, [], 0, (qg3 D f m 0 2).2.2)
  else if (qg3 D f m 0 2).2.1.length ≠ 12 then ((qe1 D f m 0).1, [], 0, 53)
  else if vf9 (qg3 D f m 0 2).2.1 < 0 ∨ 512 < vf9 (qg3 D f m 0 2).2.1 then ((qe1 D f m 0).1, [], 0, 53)
  else if sumL ((qp6 D.now f (qi0 (vf9 (qg3 D f m 0 2).2.1).toNat)).take (vf9 (qg3 D f m 0 2).2.1).toNat) = (qg3 D f m 0 2).2.1.drop 8
  then (rdK (qe1 D f m 0).1 (qi0 (vf9 (qg3 D f m 0 2).2.1).toNat), (qp6 D.now f (qi0 (vf9 (qg3 D f m 0 2).2.1).toNat)).take (vf9 (qg3 D f m 0 2).2.1).toNat, (qg3 D f m 0 2).1, 0)
  else (rdK (qe1 D f m 0).1 (qi0 (vf9 (qg3 D f m 0 2).2.1).toNat), [], 0, 53)
structure SlV3 where
  now : Nat
  number : Int
  load : List UInt8
def qd3 (D : qa3) (fl ml fr mr : Nat) : qa3 × SlV3 × Int :=
  if (qb2 D fl ml).2.2.2 ≠ 0 ∧ (qb2 D fl ml).2.2.2 ≠ 53 then ((qb2 D fl ml).1, ⟨2, 0, []⟩, (qb2 D fl ml).2.2.2)
  else if (qb2 (qb2 D fl ml).1 fr mr).2.2.2 ≠ 0 ∧ (qb2 (qb2 D fl ml).1 fr mr).2.2.2 ≠ 53 then ((qb2 (qb2 D fl ml).1 fr mr).1, ⟨2, 0, []⟩, (qb2 (qb2 D fl ml).1 fr mr).2.2.2)
  else if (qb2 D fl ml).2.2.2 = 0 ∧ ((qb2 (qb2 D fl ml).1 fr mr).2.2.2 ≠ 0 ∨ (qb2 (qb2 D fl ml).1 fr mr).2.2.1 ≤ (qb2 D fl ml).2.2.1) then ((qb2 (qb2 D fl ml).1 fr mr).1, ⟨0, (qb2 D fl ml).2.2.1, (qb2 D fl ml).2.1⟩, 0)
  else if (qb2 (qb2 D fl ml).1 fr mr).2.2.2 = 0 then ((qb2 (qb2 D fl ml).1 fr mr).1, ⟨1, (qb2 (qb2 D fl ml).1 fr mr).2.2.1, (qb2 (qb2 D fl ml).1 fr mr).2.1⟩, 0)
  else ((qb2 (qb2 D fl ml).1 fr mr).1, ⟨2, 0, []⟩, 0)
def padL (load : List UInt8) (i : Nat) : List UInt8 := (load.drop (i * 128)).take 128 ++ List.replicate (128 - ((load.drop (i * 128)).take 128).length) 0
theorem vc0 (load : List UInt8) (i : Nat) : (padL load i).length = 128 := by
  unfold padL; rw [List.length_append, List.length_replicate, List.length_take]; omega
def qr6 (D : qa3) (f m : Nat) (load : List UInt8) : Nat → Nat → qa3 × Int
  | _, 0 => (D, 0)
  | i, k + 1 => if (qb0 D f m ((1 + i : Nat) : Int) (padL load i)).2 ≠ 0 then qb0 D f m ((1 + i : Nat) : Int) (padL load i) else qr6 (qb0 D f m ((1 + i : Nat) : Int) (padL load i)).1 f m load (i + 1) k
def qm3 (D : qa3) (f m : Nat) (load : List UInt8) : qa3 × Int :=
  if (qr6 D f m load 0 (qi0 load.length)).2 ≠ 0 then qr6 D f m load 0 (qi0 load.length) else qc1 (qr6 D f m load 0 (qi0 load.length)).1
def qn9 (load : List UInt8) : List UInt8 := putL (un load.length) ++ sumL load
def qo7 (D : qa3) (f m : Nat) (number : Int) (load : List UInt8) : qa3 × Int :=
  if (qb0 D f m 0 qa5).2 ≠ 0 then qb0 D f m 0 qa5
  else if (qc1 (qb0 D f m 0 qa5).1).2 ≠ 0 then qc1 (qb0 D f m 0 qa5).1
  else if (qm3 (qc1 (qb0 D f m 0 qa5).1).1 f m load).2 ≠ 0 then qm3 (qc1 (qb0 D f m 0 qa5).1).1 f m load
  else if (qm5 (qm3 (qc1 (qb0 D f m 0 qa5).1).1 f m load).1 f m 0 2 number (qn9 load)).2 ≠ 0 then qm5 (qm3 (qc1 (qb0 D f m 0 qa5).1).1 f m load).1 f m 0 2 number (qn9 load)
  else qc1 (qm5 (qm3 (qc1 (qb0 D f m 0 qa5).1).1 f m load).1 f m 0 2 number (qn9 load)).1
def qf5 (D : qa3) (fl ml fr mr : Nat) (s : SlV3) (load : List UInt8) : qa3 × SlV3 × Int :=
  if 512 < load.length ∨ s.number = 9223372036854775807 then (D, s, 3)
  else if (qo7 D (if s.now = 0 then fr else fl) (if s.now = 0 then mr else ml) (s.number + 1) load).2 ≠ 0 then ((qo7 D (if s.now = 0 then fr else fl) (if s.now = 0 then mr else ml) (s.number + 1) load).1, s, (qo7 D (if s.now = 0 then fr else fl) (if s.now = 0 then mr else ml) (s.number + 1) load).2)
  else ((qo7 D (if s.now = 0 then fr else fl) (if s.now = 0 then mr else ml) (s.number + 1) load).1, ⟨if s.now = 0 then 1 else 0, s.number + 1, load⟩, 0)
theorem writeV_many (D : qa3) (n : Int) (b : List UInt8) : (qm8 D n b).1.many = D.many ∧ (qm8 D n b).1.waits.length ≤ D.waits.length + 1 := by
  unfold qm8
  split
  · exact ⟨rfl, by simp⟩
  · split
    · exact ⟨rfl, by simp⟩
    · exact ⟨rfl, by simp [qp5, putD]⟩
theorem qi7 (D : qa3) (f m : Nat) (n : Int) (b : List UInt8) : (qb0 D f m n b).1.many = D.many ∧ (qb0 D f m n b).1.waits.length ≤ D.waits.length + 1 := by
  unfold qb0
  split
  · exact ⟨rfl, by simp⟩
  · exact writeV_many _ _ _
section
variable {w w' : World} {base ga f m : Nat} {kind : Int} {p : qe3} {D : qa3}
end
theorem qt8 {l b : List UInt8} {n k many : Nat} (hl : l.length = many * 128) (hb : b.length = 128) (hn : n < many) (hk : k < many) : qc7 (splice l (n * 128) b) (k : Int) = if k = n then b else qc7 l (k : Int) := by
  have h1 : (qc7 (splice l (n * 128) b) (k : Int)).length = 128 := qh8 (s := many) (by rw [qg6 (by rw [hl, hb]; omega), hl]) omg omg; have h2 : (qc7 l (k : Int)).length = 128 := qh8 (s := many) hl omg omg; have ext : ∀ {x y : List UInt8}, x.length = 128 → y.length = 128 → (∀ i, i < 128 → qa2 x i = qa2 y i) → x = y := by
    intro x y hx hy h; apply List.ext_getElem omg; intro i q1 q2; have := h i omg; unfold qa2 at this; rw [List.getD_eq_getElem?_getD, List.getD_eq_getElem?_getD, List.getElem?_eq_getElem q1, List.getElem?_eq_getElem q2] at this; exact UInt8.toNat_inj.1 this
  split
  · rename_i e; subst e; refine ext h1 hb (fun i hi => ?_); rw [qh6 hi, ql0 (by rw [hl, hb]; omega), if_pos (by rw [hb]; omega), Nat.add_sub_cancel_left]
  · rename_i e; refine ext h1 h2 (fun i hi => ?_); rw [qh6 hi, qh6 hi, ql0 (by rw [hl, hb]; omega), if_neg (by rw [hb]; omega)]
structure Beside (D : qa3) (f m : Nat) : Prop where
  calm : Calm D
  many : D.many = 12
  fm : f + m ≤ 12
  out : ∀ n : Nat, n < 12 → ¬ (f ≤ n ∧ n < f + m) → qc7 D.now (n : Int) = fullL [UInt8.ofNat (n + 1)]
def imgK (img : List UInt8) (many k : Nat) : List UInt8 := img.take (k * 128) ++ List.replicate (many * 128 - min img.length (k * 128)) 0
def qq3 (many k : Nat) : List Bool := List.replicate k true ++ List.replicate (many - k) false
def qr2 (many : Nat) (room : Int) (img : List UInt8) (k : Nat) : qa3 := { newV many room with kept := imgK img many k, now := imgK img many k, inuse := qq3 many k, might := qq3 many k }
def qk2 (img : List UInt8) : Nat := (img.length + 127) / 128
theorem qp3 {img : List UInt8} {many k : Nat} (h : img.length ≤ many * 128) : (imgK img many k).length = many * 128 := by
  unfold imgK; rw [List.length_append, List.length_take, List.length_replicate]; omega
theorem qx5 {many k : Nat} (h : k ≤ many) : (qq3 many k).length = many := by unfold qq3; rw [List.length_append, List.length_replicate, List.length_replicate]; omega
theorem vg5 {many k : Nat} (h : k < many) : (qq3 many k).set k true = qq3 many (k + 1) := by
  unfold qq3; rw [List.set_append_right _ _ smp, List.length_replicate, Nat.sub_self, show many - k = (many - (k + 1)) + 1 by omega, List.replicate_succ, List.set_cons_zero, List.replicate_succ']; simp
theorem imgK_zero (img : List UInt8) (many : Nat) : imgK img many 0 = List.replicate (many * 128) 0 := by simp [imgK]
theorem loadD_zero (many : Nat) (room : Int) (img : List UInt8) : qr2 many room img 0 = newV many room := by
  unfold qr2; rw [imgK_zero]; have : qq3 many 0 = List.replicate many false := by simp [qq3]
  rw [this]; rfl
theorem imgK_succ {img : List UInt8} {many k : Nat} (h : img.length ≤ many * 128) (hk : k * 128 < img.length) : splice (imgK img many k) (k * 128) ((img.drop (k * 128)).take 128) = imgK img many (k + 1) := by
  unfold splice imgK; have h1 : (img.take (k * 128)).length = k * 128 := by rw [List.length_take]; omega
  have h2 : ((img.drop (k * 128)).take 128).length = min 128 (img.length - k * 128) := by rw [List.length_take, List.length_drop]
  rw [List.take_append_of_le_length omg, List.take_of_length_le omg, h2, List.drop_append, h1, List.drop_of_length_le (show (img.take (k * 128)).length ≤ k * 128 + min 128 (img.length - k * 128) by omega), List.nil_append, List.drop_replicate, ← List.append_assoc]
  congr 1
  · rw [show (k + 1) * 128 = k * 128 + 128 by omega, List.take_add]
  · congr 1; omega
theorem imgK_byte {img : List UInt8} {many k q : Nat} (h : img.length ≤ many * 128) (hq : q < many * 128) : qa2 (imgK img many k) q = if q < k * 128 then qa2 img q else 0 := by
  unfold qa2 imgK; rw [List.getD_eq_getElem?_getD, List.getD_eq_getElem?_getD]
  by_cases h1 : q < min img.length (k * 128)
  · rw [List.getElem?_append_left (by rw [List.length_take]; omega), List.getElem?_take, if_pos omg, if_pos omg]
  · rw [List.getElem?_append_right (by rw [List.length_take]; omega), List.getElem?_replicate, List.length_take]; have e0 : ∀ b : Bool, ((if b = true then some (0 : UInt8) else none).getD 0).toNat = 0 := fun b => by cases b <;> rfl
    have e1 := e0 (decide (q - min (k * 128) img.length < many * 128 - min img.length (k * 128))); simp only [decide_eq_true_eq] at e1; rw [e1]
    split
    · rw [List.getElem?_eq_none omg]; rfl
    · rfl
theorem qy8 {x y : List UInt8} (hx : x.length = y.length) (h : ∀ i, i < y.length → qa2 x i = qa2 y i) : x = y := by
  apply List.ext_getElem omg; intro i q1 q2; have := h i omg; unfold qa2 at this; rw [List.getD_eq_getElem?_getD, List.getD_eq_getElem?_getD, List.getElem?_eq_getElem q1, List.getElem?_eq_getElem q2] at this; exact UInt8.toNat_inj.1 this
theorem imgK_sec {img : List UInt8} {many k : Nat} (h : img.length ≤ many * 128) (hk : k < many) : splice (imgK img many k) (k * 128) (qc7 (imgK img many (k + 1)) (k : Int)) = imgK img many (k + 1) := by
  have hs : (qc7 (imgK img many (k + 1)) (k : Int)).length = 128 := qh8 (qp3 h) omg omg; have hl := qp3 (k := k) h; have hl1 := qp3 (k := k + 1) h; refine qy8 (by rw [qg6 omg, hl, hl1]) (fun i hi => ?_); rw [hl1] at hi; rw [ql0 omg, hs]
  split
  · rename_i hq; rw [qh6 omg, show k * 128 + (i - k * 128) = i by omega]
  · rename_i hq; rw [imgK_byte h hi, imgK_byte h hi]
    by_cases q : i < k * 128
    · rw [if_pos q, if_pos omg]
    · rw [if_neg q, if_neg omg]
theorem loadD_ok {many : Nat} {room : Int} {img : List UInt8} {k : Nat} (h0 : 1 ≤ many) (h1 : many ≤ 4096) (r0 : 0 ≤ room) (r1 : room ≤ many) (h : img.length ≤ many * 128) (hk : k ≤ many) : (qr2 many room img k).Ok :=
  ⟨h0, h1, qp3 h, qp3 h, qx5 hk, qx5 hk, fun p hp => (by cases hp), ⟨r0, r1⟩, ⟨by show (-1 : Int) ≤ -1; omega, by show (-1 : Int) ≤ _; omega⟩, by show 0 ≤ 1000000; omega⟩
theorem qa4.ldS {w : World} {base : Nat} {p : qe3} {A : Option Addr} {c k : Nat} {D : qa3} (h : qa4 w base p A c D) :
    w.cell? ⟨p.d, 0, none⟩ = some (.slice (some ⟨p.gk, 0, none⟩) D.many D.many) ∧ w.cell? ⟨p.d, 1, none⟩ = some (.slice (some ⟨p.gn, 0, none⟩) D.many D.many) ∧ w.cell? ⟨p.d, 2, none⟩ = some (.slice (some ⟨p.gi, 0, none⟩) D.many D.many) ∧
      w.cell? ⟨p.d, 3, none⟩ = some (.slice (some ⟨p.gm, 0, none⟩) D.many D.many) ∧ w.rangeAt p.gk (k * 128) ((qc7 D.kept (k : Int)).map bv) :=
  ⟨h.cells.1, h.cells.2.1, h.cells.2.2.1, h.cells.2.2.2.1, h.bk.range (n := 128) (by unfold qc7; rw [Int.toNat_natCast, List.map_take, List.map_drop])⟩
theorem qa4.setMight' {w : World} {base : Nat} {p : qe3} {A : Option Addr} {c : Nat} {D : qa3} (h : qa4 w base p A c D) (n : Nat) (b : Bool) {L : List Bool} (hL : D.might.set n b = L) : qa4 (w.setCell ⟨p.gm, n, none⟩ (.bool b)) base p A c { D with might := L } := by subst hL; exact h.setMight n b
theorem qa4.setIn' {w : World} {base : Nat} {p : qe3} {A : Option Addr} {c : Nat} {D : qa3} (h : qa4 w base p A c D) (n : Nat) (b : Bool) {L : List Bool} (hL : D.inuse.set n b = L) : qa4 (w.setCell ⟨p.gi, n, none⟩ (.bool b)) base p A c { D with inuse := L } := by subst hL; exact h.setIn n b
def LdPost (w : World) (D : qa3) (e : Ending) (w' : World) : Prop := ∃ p, e = .returned (.tuple #[.pointer (some ⟨p.d, 0, none⟩), .int .i64 0]) ∧ qc4 w' w.heap.size p D ∧ Below w.heap.size w w'
theorem load_ok (B : Option Addr) (n d : Nat) (img : List UInt8) (many : Nat) (room : Int) (w : World) (hr : RB w B n img) (hnd : n ≤ d) (h0 : 1 ≤ many) (h1 : many ≤ 4096) (r0 : 0 ≤ room) (r1 : room ≤ many) (hl : n ≤ many * 128) (hu : (qk2 img : Int) ≤ room) :
    Calls Tryz.prog 52 #[.slice B n d, .int .i64 (many : Int), .int .i64 room] w (LdPost w (qr2 many room img (qk2 img))) := by
  have hnew := new_ok many room w h0 h1 r0 r1; rw [← loadD_zero many room img] at hnew; have hlen := hr.1; have hus : qk2 img = (n + 127) / 128 := by unfold qk2; rw [hlen]
  obtain ⟨N, hN⟩ : ∃ N, N = qk2 img := ⟨_, rfl⟩; rw [← hN] at hu hus ⊢; have HN := hdd hN; have hNm : N ≤ many := omg; have hq : ((n : Int) + 127) / 128 = (N : Int) := omg; clear hN; go_enter Tryz.func52, Tryz.ntmps52; go_wp2_with (first | ((go_at_call 39; (with_reducible refine (hnew).mono ?_); rintro e w1 ⟨p, rfl, hd1, hb1⟩); have H1 := hdd hd1; have s1 := hb1.size; clear hd1) | fail "no arm"); go_loopw [11, 37] (fun _ i wr => ∃ k : Nat, k ≤ N ∧ i = .int .i64 (k : Nat) ∧ qa4 wr w.heap.size p none 0 (qr2 many room img k) ∧ Below w.heap.size w wr) (fun _ i _ => N - (intOf i).toNat)
  case atStart => exact ⟨0, omg, rfl, H1.out, hb1⟩
  case round =>
    obtain ⟨k, hk, rfl, hX, hbel⟩ := hrel
    by_cases hlt : k < N
    · have hkn : k * 128 < n := omg; have hkm : k < many := omg; have hkI : (k : Int) < N := omg; have hkI2 : (k : Int) < many := omg; have hbs := hbel.size; obtain ⟨X, hXe⟩ : ∃ X, X = (if d = k * 128 then B else B.map (·.add (k * 128))) := ⟨_, rfl⟩; obtain ⟨C, hC⟩ : ∃ C, C = d - k * 128 := ⟨_, rfl⟩; have hcut : ∀ W : World, (Instr.slice 22 (.slice B n d) (some (.int .i64 ((k : Int) * 128))) none none).run Tryz.prog W = .ok (.slice X (n - k * 128) C) W := fun W => by
        have := qi5 (P := Tryz.prog) qb4 B n d (k * 128) omg W; rw [Nat.mul_one, ← hXe, ← hC] at this; rw [← this]; rfl
      have hrX : RB wr X (n - k * 128) (img.drop (k * 128)) := by
        have hrw := hr.below hbel nlr; refine ⟨by rw [List.length_drop, hlen], ?_⟩; rw [hXe]; exact (Row.cut hrw.2 omg hnd).congr fun i hi => by
          unfold qa2; rw [List.getD_eq_getElem?_getD, List.getD_eq_getElem?_getD, List.getElem?_drop]
      have hfirst := hdd (imgK_succ (many := many) (k := k) (by rw [hlen]; exact hl) (by rw [hlen]; exact hkn)); have hsec := hdd (imgK_sec (img := img) (many := many) (k := k) (by rw [hlen]; exact hl) hkm); have htr := hdd (vg5 hkm); have hli := hdd (qp3 (img := img) (many := many) (k := k + 1) (by rw [hlen]; exact hl)); have e0 := hX.cells.1; have hcut1 := fun o => qn7 (P := Tryz.prog) Tryz.underlying152 (by kernel_rfl) p.gk o
      have hwr : Hid (IntKind.i64.wrap ((k : Int) * 128) = (k : Int) * 128) := by show _ = _; go_arith
      have HX := hdd hX; have HR := hdd hrX; have Hi := hdd (zero_of_info qf4).2
      change wr.cell? _ = some (.slice (some ⟨p.gk, 0, none⟩) many many) at e0
      clear hX hXe hC hrX hus; go_wp2; refine wp_region_held_drew (S := fun w' => w'.cell? ⟨p.d, 0, none⟩ = some (.slice (some ⟨p.gk, 0, none⟩) many many)) (by kernel_rfl) e0 (fun hHeld => ?_); refine tkS 0 ?_; refine tkS 1 ?_; refine tkS 2 ?_; refine tkS 3 ?_; refine tkS 4 ?_; refine tkS 5 ?_; refine tkS 6 ?_; refine tkS 7 ?_; refine tkS 8 ?_; refine tkS 9 ?_ (hy := Or.inl ⟨by rfl, by (intro w hSw; (try dsimp only at hSw); go_simp; simp only [hwr.out]; rfl)⟩); refine tkS 10 ?_; refine on1 11 (fun K hK => ?_); have HXd := hdd (HX.out.drewN 1 : qa4 wr.drew w.heap.size p none 0 _); refine qm9 rfl rfl qb4 qc2 (dLen := 128) (dCap := 128) (off := k * 128) (l := imgK img many k) (k := img.drop (k * 128)) (L := imgK img many (k + 1)) rfl rfl (fun _ => rfl) HXd.out.bk (Rd.drew' HR.out.rd) (by rw [qp3 (by rw [hlen]; exact hl)]; omega) hfirst.out ?_; intro w2 hb2 hg2 hs2; have h2 := HXd.out.turnKept (w' := w2) (Keep.one hg2) hb2 hli.out; have b2 : Below w.heap.size w w2 := (Below.drew hbel).trans (HXd.out.belowK ((Keep.one hg2).mono (fun g _ e => .inr (.inl e))) hbs); have e02 := h2.cells.1
      change w2.cell? _ = some (.slice (some ⟨p.gk, 0, none⟩) many many) at e02
      have H2 := hdd h2; clear h2; refine hK.out _ _ (e02) (fun hHeld => ?_); clear hK K; refine nmz ?_; refine wpAnyH_done (by decide +kernel) ?_ _; have hks2 := w2.heap.size; obtain ⟨f0, f1, f2, f3, f4⟩ := H2.out.ldS (k := k); have hsl : Hid (((qc7 (imgK img many (k + 1)) (k : Int)).map bv).length = 128) := by show _ = _; rw [List.length_map, qh8 (s := many) hli.out omg omg]
      have hsm := hdd (qk1 (l := qc7 (imgK img many (k + 1)) (k : Int)))
      change w2.cell? _ = some (.slice (some ⟨p.gk, 0, none⟩) many many) at f0
      change w2.cell? _ = some (.slice (some ⟨p.gn, 0, none⟩) many many) at f1
      change w2.cell? _ = some (.slice (some ⟨p.gi, 0, none⟩) many many) at f2
      change w2.cell? _ = some (.slice (some ⟨p.gm, 0, none⟩) many many) at f3
      change w2.rangeAt p.gk (k * 128) ((qc7 (imgK img many (k + 1)) (k : Int)).map bv) at f4
      obtain ⟨SV, hSV⟩ : ∃ SV, SV = (qc7 (imgK img many (k + 1)) (k : Int)).map bv := ⟨_, rfl⟩; rw [← hSV] at hsl hsm f4; have HSV := hdd hSV; clear hSV; go_wp2; refine wp_region_held_drew (S := fun w' => w'.cell? ⟨p.d, 0, none⟩ = some (.slice (some ⟨p.gk, 0, none⟩) many many) ∧ w'.cell? ⟨p.d, 1, none⟩ = some (.slice (some ⟨p.gn, 0, none⟩) many many) ∧ w'.cell? ⟨p.d, 2, none⟩ = some (.slice (some ⟨p.gi, 0, none⟩) many many) ∧ w'.cell? ⟨p.d, 3, none⟩ = some (.slice (some ⟨p.gm, 0, none⟩) many many) ∧ w'.rangeAt p.gk (k * 128) SV) (by kernel_rfl) ⟨f0, f1, f2, f3, f4⟩ (fun hHeld => ?_); refine tkS 0 ?_; refine tkS 1 ?_; refine tkS 2 ?_; refine tkS 3 ?_ (hy := Or.inl ⟨by rfl, by (intro w hSw; (try dsimp only at hSw); obtain ⟨s0, s1, s2, s3, s4⟩ := hSw; go_simp; rfl)⟩); refine tkS 4 ?_; refine tkS 5 ?_; refine tkS 6 ?_; refine tkS 7 ?_; refine tkS 8 ?_ (hy := Or.inl ⟨by rfl, by (intro w hSw; (try dsimp only at hSw); obtain ⟨s0, s1, s2, s3, s4⟩ := hSw; go_simp; rfl)⟩); refine tkS 9 ?_; refine tkS 10 ?_; refine tkS 11 ?_; refine tkS 12 ?_; refine tkS 13 ?_ (hy := Or.inl ⟨by rfl, by (intro w hSw; (try dsimp only at hSw); obtain ⟨s0, s1, s2, s3, s4⟩ := hSw; go_simp; rfl)⟩); refine tkS 14 ?_; refine tkS 15 ?_; refine tkS 16 ?_; refine tkS 17 ?_; refine tkS 18 ?_ (hy := Or.inl ⟨by rfl, by (intro w hSw; (try dsimp only at hSw); obtain ⟨s0, s1, s2, s3, s4⟩ := hSw; go_simp; rfl)⟩); refine tkS 19 ?_; refine tkS 20 ?_; refine wpAnyH_take (i := 21) (v := _) rfl (by decide +kernel) (by decide +kernel) (by decide +kernel) (fun _ _ _ h => h) (yieldsIf_load_mid (by rfl) _ _ rfl _ _ rfl SV _ (fun _ h => h.2.2.2.2) Tryz.underlying152 rfl (by rw [hsl.out]; exact Hi.out)) (by assumption) ?_; refine nmz ?_; refine tkS 22 ?_; refine on1 23 (fun K hK => ?_); rw [if_pos (by rfl)]; refine wp_store_mid 152 (.tmp 74) (.tmp 73) rfl p.gn (k * 128) SV.toArray rfl rfl (by rw [List.size_toArray, hsl.out]; exact (H2.out.drewN 1).bn.there (k * 128) 128 (by rw [List.length_map]; show k * 128 + 128 ≤ (imgK img many k).length; rw [qp3 (by rw [hlen]; exact hl)]; omega)) (by rw [List.size_toArray, hsl.out]; exact Hi.out) (all_oneCell_toArray hsm.out) ?_; have hD3 : qa4 w2.drew w.heap.size p none 0 _ := H2.out.drewN 1; have hbn3 := Blk.setCells SV (k * 128) w2.drew _ hD3.bn (by rw [List.length_map, hsl.out]; show k * 128 + 128 ≤ (imgK img many k).length; rw [qp3 (by rw [hlen]; exact hl)]; omega); have kn3 : Keep (· = p.gn) w2.drew (w2.drew.setCells p.gn (k * 128) SV) := Keep.one (qj6 _ _ _ _); rw [HSV.out] at hbn3; have hspl : splice (((imgK img many k)).map bv) (k * 128) ((qc7 (imgK img many (k + 1)) (k : Int)).map bv) = (imgK img many (k + 1)).map bv := by rw [qq8, hsec.out]
      have h3 := qa4.turnNow (w' := w2.drew.setCells p.gn (k * 128) SV) (l := imgK img many (k + 1)) hD3 kn3 (by rw [HSV.out]; unfold BlkB; rw [← hspl]; exact hbn3) hli.out; obtain ⟨f0, f1, f2, f3, f4⟩ := h3.ldS (k := k)
      change (w2.drew.setCells p.gn (k * 128) SV).rangeAt p.gk (k * 128) ((qc7 (imgK img many (k + 1)) (k : Int)).map bv) at f4
      rw [← HSV.out] at f4; have b3 : Below w.heap.size w (w2.drew.setCells p.gn (k * 128) SV) := (Below.drew b2).trans (hD3.belowK (kn3.mono (fun g _ e => .inr (.inr (.inl e)))) (show w.heap.size ≤ w2.heap.size from b2.size)); have H3 := hdd h3; have B3 := hdd b3; simp only [List.toList_toArray]; clear h3 b3 hbn3 hspl; generalize w2.drew.setCells p.gn (k * 128) SV = w3 at *; refine hK.out _ _ (⟨f0, f1, f2, f3, f4⟩) (fun hHeld => ?_); clear hK K; refine nmz ?_; refine tkS 24 ?_; refine on1 25 (fun K hK => ?_); have ei := qj1 H3.out.bi k (show k < (qq3 many k).length by rw [qx5 omg]; omega); have fi := H3.out.bi.frozen k; go_simp; have h4 := H3.out.setIn' k true (L := qq3 many (k + 1)) htr.out; obtain ⟨f0, f1, f2, f3, f4⟩ := h4.ldS (k := k)
      change (w3.setCell ⟨p.gi, k, none⟩ (.bool true)).rangeAt p.gk (k * 128) ((qc7 (imgK img many (k + 1)) (k : Int)).map bv) at f4
      rw [← HSV.out] at f4; have H4 := hdd h4; have hg0 := H3.out.bs p.gi (.inr (.inr (.inr (.inl rfl)))); have B4 := hdd (Below.setCell B3.out (p := ⟨p.gi, k, none⟩) hg0 (.bool true)); clear h4; refine hK.out _ _ (⟨f0, f1, f2, f3, f4⟩) (fun hHeld => ?_); clear hK K; refine nmz ?_; refine tkS 26 ?_; refine on1 27 (fun K hK => ?_); have em := qj1 H4.out.bm k (show k < (qq3 many k).length by rw [qx5 omg]; omega); have fm := H4.out.bm.frozen k; go_simp; have h5 := H4.out.setMight' k true (L := qq3 many (k + 1)) htr.out; obtain ⟨f0, f1, f2, f3, f4⟩ := h5.ldS (k := k)
      change ((w3.setCell ⟨p.gi, k, none⟩ (.bool true)).setCell ⟨p.gm, k, none⟩ (.bool true)).rangeAt p.gk (k * 128) ((qc7 (imgK img many (k + 1)) (k : Int)).map bv) at f4
      rw [← HSV.out] at f4; have h6 : qa4 ((w3.setCell ⟨p.gi, k, none⟩ (.bool true)).setCell ⟨p.gm, k, none⟩ (.bool true)) w.heap.size p none 0 (qr2 many room img (k + 1)) := h5; have H6 := hdd h6; have hg1 := H3.out.bs p.gm (.inr (.inr (.inr (.inr (.inl rfl))))); have B6 := hdd (Below.setCell B4.out (p := ⟨p.gm, k, none⟩) hg1 (.bool true)); clear h5 h6; refine hK.out _ _ (⟨f0, f1, f2, f3, f4⟩) (fun hHeld => ?_); clear hK K; refine nmz ?_; refine wpAnyH_done (by decide +kernel) ?_ _; go_wp2; go_roundw
      case rel => first
        | exact ⟨k + 1, omg, by go_num, H6.out, B6.out⟩
        | ((repeat apply Exists.intro); exact ⟨⟨k + 1, omg, by go_num, H6.out, B6.out⟩, rfl⟩)
      case measure => simp [intOf]; omega
    · have hk9 : k = N := omg; subst hk9; have HX := hdd hX; clear hX hus; go_wp2; go_ret2; exact ⟨p, rfl, HX.out.s, hbel⟩
section
variable {w w' : World} {base ga gj f m next : Nat} {kind : Int} {p : qe3} {D : qa3}
theorem s_anew (h : qc4 w base p D) (hs : base ≤ w.heap.size) (f m : Nat) (h1 : 1 ≤ m) (h2 : f + m ≤ D.many) :
    Calls Tryz.prog 56 #[.pointer (some ⟨p.d, 0, none⟩), .agg #[.int .i64 (f : Int), .int .i64 (m : Int)]] w fun e w' => ∃ ga, e = .returned (.tuple #[.pointer (some ⟨ga, 0, none⟩), .int .i64 0]) ∧ qc3 w' ga p.d f m ∧ w.heap.size ≤ ga ∧ qc4 w' base p D ∧ Step mutD base p w w' := by
  obtain ⟨A, c, h⟩ := h; exact (anew_ok h f m h1 h2).mono fun e w' ⟨ga, h1, h2, h3, h4⟩ => ⟨ga, h1, h2, h3, (h.below h4).s, Step.of_below h4 hs⟩
end
structure SlV where
  a : Option Addr
  n : Nat
  c : Nat
def slV (h : SlV) : Value := .slice h.a h.n h.c
theorem slV_one (h : SlV) : (slV h).oneCell' = true := rfl
theorem elemHdr : qg4 Tryz.prog 120 22 (.slice none 0 0) 1 24 := qg4.mk' Tryz.underlying120 (by kernel_rfl) rfl dcd
section
variable {w w' : World} {b N c n : Nat} {B : Option Addr} {Ls : List (List UInt8)}
theorem Ow.grownOw {α β : Type} {enc : α → Value} {enc' : β → Value} {b' n c' : Nat} {e e' : TypeId} {B' : Option Addr} {l : List α} {l' : List β} (ho : Ow enc w b' e B' n c' l) {bb m cc : Nat} {C : Option Addr} (hB : Ow enc' w bb e' C m cc l') (hg : w.grownBy w' (C.map (·.block))) (hne : e ≠ e') : Ow enc w' b' e B' n c' l := by
  refine ⟨ho.1, qe7 (F := fun g => C.map (·.block) = some g) ho.2 (Keep.of_grown hg (fun g e => e)) (fun g hg' he => ?_)⟩; rcases hB.2.2 with ⟨hv, _⟩ | ⟨g', cap, cur, hv, _, hh, _⟩
  · injection hv with hv; subst hv; cases he
  · injection hv with hv; subst hv; simp only [Option.map_some, Option.some.injEq] at he; subst he; exact qw0 ho.2 (g := g') (t := e') (cs := cur.toList) (by unfold Blk; rw [hh]) hne hg'
end
section
variable {w w' : World} {base ga gj f m next : Nat} {kind : Int} {p : qe3} {D : qa3}
end
open Go.RowKit Go.WideShapes Go.ChangeShapes Go.Deep Go.Joins
section
variable {H : Type} {enc : TypeId × Value → H} {P : Program} {w : World} {base b0 : Nat} {held : Bool} {r : Reach} {v : Value} {d : DataW H} {ps : List MemPlace}
end
def qs0 (w : World) (base : Nat) (t : TypeId) (A : Option Addr) : Prop := ∀ g, A.map (·.block) = some g → g < base ∨ ∃ cs, Blk w g t cs
def qb8 (w : World) (base : Nat) (h : SlV) (L : List UInt8) : Prop := RB w h.a h.n L ∧ h.n ≤ maxLen ∧ (0 < h.n → qs0 w base 5 h.a)
theorem Row.sameB {w w' : World} {A : Option Addr} {n : Nat} {f : Nat → Value} (h : Row w A n f) (hs : w.heap.size ≤ w'.heap.size) (hF : ∀ b, A.map (·.block) = some b → b < w.heap.size → w'.heap[b]? = w.heap[b]?) : Row w' A n f := fun h0 => by
  obtain ⟨b, o, rfl, hb, hc⟩ := h h0; refine ⟨b, o, rfl, Nat.lt_of_lt_of_le hb hs, fun i hi => ?_⟩; rw [← hc i hi]; have := hF b rfl hb; simp only [World.cell?, this]
section
variable {M : List TypeId} {w w' : World} {base : Nat} {p : qe3} {D : qa3} {t : TypeId} {A : Option Addr} {n : Nat}
theorem qs0.step (h : qs0 w base t A) (hd : qc4 w base p D) (k : Step M base p w w') (ht : t ∉ 4 :: M) : qs0 w' base t A := fun g hg => by
  rcases h g hg with q | ⟨cs, q⟩
  · exact .inl q
  · exact .inr ⟨cs, hd.blk q k.tch ht⟩
theorem qs0.heap (h : qs0 w base t A) (hd : qc4 w base p D) (k : Step M base p w w') (ht : t ∉ 4 :: M) : ∀ b, A.map (·.block) = some b → b < w.heap.size → w'.heap[b]? = w.heap[b]? := fun b hb _ => by
  rcases h b hb with q | ⟨cs, q⟩
  · exact k.bel.block b q
  · exact Eq.trans (hd.blk q k.tch ht) (Eq.symm q)
theorem Row.stepR {f : Nat → Value} (h : Row w A n f) (hr : 0 < n → qs0 w base t A) (hd : qc4 w base p D) (k : Step M base p w w') (ht : t ∉ 4 :: M) : Row w' A n f := fun h0 => (h.sameB k.size ((hr h0).heap hd k ht)) h0
theorem qb8.step {h : SlV} {L : List UInt8} (H : qb8 w base h L) (hd : qc4 w base p D) (k : Step M base p w w') (ht : 5 ∉ 4 :: M) : qb8 w' base h L :=
  ⟨⟨H.1.1, H.1.2.stepR H.2.2 hd k ht⟩, H.2.1, fun h0 => (H.2.2 h0).step hd k ht⟩
theorem qb8.below {h : SlV} {L : List UInt8} (H : qb8 w base h L) (hb : Below w.heap.size w w') : qb8 w' base h L :=
  ⟨H.1.below hb nlr, H.2.1, fun h0 g hg => by
    rcases H.2.2 h0 g hg with q | ⟨cs, q⟩
    · exact .inl q
    · exact .inr ⟨cs, q.below hb q.lt⟩⟩
theorem Ow.blk {α : Type} {enc : α → Value} {c : Nat} {l : List α} (h : Ow enc w base t A n c l) {g : Nat} (hg : A.map (·.block) = some g) : ∃ cs, Blk w g t cs := by
  rcases h.2.2 with ⟨hv, _⟩ | ⟨g', cap, cur, hv, _, hh, _⟩
  · injection hv with hv; subst hv; cases hg
  · injection hv with hv; subst hv; simp only [Option.map_some, Option.some.injEq] at hg; subst hg; exact ⟨cur.toList, by unfold Blk; rw [hh]⟩
theorem qb8.of_ob {b : Nat} {h : SlV} {L : List UInt8} (H : OB w b 5 h.a h.n h.c L) : qb8 w base h L :=
  ⟨H.rd.rb, by have := H.cap; omega, fun _ g hg => .inr (H.blk hg)⟩
theorem Rd.take_ {α : Type} {enc : α → Value} {l : List α} {m : Nat} (h : Rd enc w A n l) (hm : m ≤ n) : Rd enc w A m (l.take m) :=
  ⟨by rw [List.length_take, h.1]; omega, (h.2.take hm).congr fun i hi => by
    show (l.map enc).getD i undef = ((l.take m).map enc).getD i undef
    rw [List.getD_eq_getElem?_getD, List.getD_eq_getElem?_getD, List.map_take, List.getElem?_take, if_pos hi]⟩
end
section
variable {M : List TypeId} {w w' : World} {base : Nat} {p : qe3} {D : qa3} {sB aB : Option Addr} {sN aN ac : Nat} {sure all : List (List UInt8)}
end
end Go.Proofs.YtpmkpckldnnigaaGreat
