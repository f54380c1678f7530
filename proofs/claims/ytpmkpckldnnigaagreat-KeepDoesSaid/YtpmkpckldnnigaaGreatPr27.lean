/- Parts: RDiskA. -/
import Derived.Test.YtpmkpckldnnigaaGreatPr02
import Derived.Test.YtpmkpckldnnigaaGreatPr26
import Derived.Test.YtpmkpckldnnigaaGreatPr20
import Derived.Test.YtpmkpckldnnigaaGreatPr04
set_option linter.unusedVariables false
set_option linter.unusedSimpArgs false
set_option maxRecDepth 100000
set_option maxHeartbeats 40000000
namespace Go.Proofs.YtpmkpckldnnigaaGreat
open Go.RowKit
structure qf0 where
  d : Nat
  gk : Nat
  gi : Nat
  go : Nat
def rdC (q : qf0) (many ck ci : Nat) (A : Option Addr) (nW c : Nat) (room cut : Int) (off : Bool) : List Value :=
  [.slice (some ⟨q.gk, 0, none⟩) many ck, .slice (some ⟨q.gi, 0, none⟩) many ci, .slice A nW c, .int .i64 room, .int .i64 cut, .bool off, .slice (some ⟨q.go, 0, none⟩) 3 3]
def encP (x : Nat × SlV) : List Value := [.int .i64 (x.1 : Nat), slV x.2]
def opsC (o : List Int) : List Value := [.int .i64 (mGet o 1), .int .i64 (mGet o 2), .int .i64 (mGet o 3)]
def vb6 (h : SlV) : Prop := h.n = 128 ∧ 128 ≤ h.c ∧ h.c ≤ maxLen
def qi8 (w : World) (base gk many ck : Nat) (kept : List UInt8) : Prop := ∃ hs : List SlV, Ow slV w base 22 (some ⟨gk, 0, none⟩) many ck hs ∧ ∀ (k : Nat) (h : SlV), hs[k]? = some h → vb6 h ∧ qb8 w base h (qc7 kept (k : Int))
def qq2 (w : World) (base : Nat) (A : Option Addr) (c : Nat) (W : List (Nat × List UInt8)) : Prop := ∃ ps : List (Nat × SlV), OwS 2 encP w base 156 A W.length c ps ∧ ∀ (k : Nat) (x : Nat × SlV), ps[k]? = some x → ∃ L, W[k]? = some (x.1, L) ∧ vb6 x.2 ∧ qb8 w base x.2 L
structure qc0 (w : World) (base : Nat) (q : qf0) (A : Option Addr) (c ck ci : Nat) (D : qa3) : Prop where
  ok : D.Ok
  cons : Cons D
  ops : D.ops.length = 6
  st : Blk w q.d 124 (rdC q D.many ck ci A D.waits.length c D.room D.cut D.off)
  kept : qi8 w base q.gk D.many ck D.kept
  inu : Ow qo1 w base 4 (some ⟨q.gi, 0, none⟩) D.many ci D.inuse
  wts : qq2 w base A c D.waits
  op : Blk w q.go 3 (opsC D.ops)
  bd : base ≤ q.d
  bo : base ≤ q.go
def qb5 (w : World) (base : Nat) (q : qf0) (D : qa3) : Prop := ∃ A c ck ci, qc0 w base q A c ck ci D
def vj6 (q : qf0) (A : Option Addr) (g : Nat) : Prop := g = q.d ∨ g = q.gk ∨ g = q.gi ∨ g = q.go ∨ A.map (·.block) = some g
section
variable {w w' : World} {base : Nat} {q : qf0} {A : Option Addr} {c ck ci : Nat} {D : qa3}
theorem qi8.below {gk many : Nat} {kept : List UInt8} (h : qi8 w base gk many ck kept) (hb : Below w.heap.size w w') : qi8 w' base gk many ck kept := by
  obtain ⟨hs, ho, hk⟩ := h; exact ⟨hs, ho.below hb nlr, fun k x hx => ⟨(hk k x hx).1, (hk k x hx).2.below hb⟩⟩
theorem OwS.below' {α : Type} {size : Nat} {enc : α → List Value} {n c base : Nat} {e : TypeId} {A : Option Addr} {l : List α} (h : OwS size enc w base e A n c l) (hb : Below w.heap.size w w') : OwS size enc w' base e A n c l := h.below hb nlr
theorem qq2.below {W : List (Nat × List UInt8)} (h : qq2 w base A c W) (hb : Below w.heap.size w w') : qq2 w' base A c W := by
  obtain ⟨ps, ho, hk⟩ := h; exact ⟨ps, ho.below' hb, fun k x hx => by obtain ⟨L, h1, h2, h3⟩ := hk k x hx; exact ⟨L, h1, h2, h3.below hb⟩⟩
theorem qc0.below (h : qc0 w base q A c ck ci D) (hb : Below w.heap.size w w') : qc0 w' base q A c ck ci D :=
  ⟨h.ok, h.cons, h.ops, h.st.below hb h.st.lt, h.kept.below hb, h.inu.below hb nlr, h.wts.below hb, h.op.below hb h.op.lt, h.bd, h.bo⟩
theorem qc0.drewN (h : qc0 w base q A c ck ci D) (n : Nat) : qc0 (w.drewN n) base q A c ck ci D := h.below (below_drewN (Below.refl _ _) n)
theorem qc0.foot_ty (h : qc0 w base q A c ck ci D) {g : Nat} {t : TypeId} {cs : List Value} (hb : Blk w g t cs) (hf : vj6 q A g) : t = 124 ∨ t = 156 ∨ g = q.gk ∨ g = q.gi ∨ g = q.go := by
  rcases hf with e | e | e | e | e
  · subst e
    by_cases q : t = 124
    · exact .inl q
    · exact absurd rfl (hb.ne_ h.st q)
  · exact .inr (.inr (.inl e))
  · exact .inr (.inr (.inr (.inl e)))
  · exact .inr (.inr (.inr (.inr e)))
  · obtain ⟨ps, ho, _⟩ := h.wts
    by_cases q : t = 156
    · exact .inr (.inl q)
    · exact absurd e (ho.ne_ hb (fun e => q e.symm))
theorem qc0.bs (h : qc0 w base q A c ck ci D) : ∀ g, vj6 q A g → base ≤ g := fun g hg => by
  rcases hg with e | e | e | e | e
  · rw [e]; exact h.bd
  · obtain ⟨hs, ho, _⟩ := h.kept; exact (ho.lt g (by rw [e]; rfl)).1
  · exact (h.inu.lt g (by rw [e]; rfl)).1
  · rw [e]; exact h.bo
  · obtain ⟨ps, ho, _⟩ := h.wts; exact (ho.2.lt g (by cases A with | none => cases e | some a => simpa [Value.ownBlock] using e)).1
theorem qc0.lt (h : qc0 w base q A c ck ci D) : ∀ g, vj6 q A g → g < w.heap.size := fun g hg => by
  rcases hg with e | e | e | e | e
  · rw [e]; exact h.st.lt
  · obtain ⟨hs, ho, _⟩ := h.kept; exact (ho.lt g (by rw [e]; rfl)).2
  · exact (h.inu.lt g (by rw [e]; rfl)).2
  · rw [e]; exact h.op.lt
  · obtain ⟨ps, ho, _⟩ := h.wts; exact (ho.2.lt g (by cases A with | none => cases e | some a => simpa [Value.ownBlock] using e)).2
theorem qc0.apart (h : qc0 w base q A c ck ci D) : q.d ≠ q.gk ∧ q.d ≠ q.gi ∧ q.d ≠ q.go ∧ q.gk ≠ q.gi ∧ q.gk ≠ q.go ∧ q.gi ≠ q.go ∧ A.map (·.block) ≠ some q.d ∧ A.map (·.block) ≠ some q.gk ∧ A.map (·.block) ≠ some q.gi ∧ A.map (·.block) ≠ some q.go := by
  obtain ⟨hs, ho, _⟩ := h.kept; obtain ⟨ps, hp, _⟩ := h.wts; obtain ⟨k1, b1⟩ := ho.blk (g := q.gk) rfl; obtain ⟨k2, b2⟩ := h.inu.blk (g := q.gi) rfl; exact ⟨h.st.ne_ b1 dcd, h.st.ne_ b2 dcd, h.st.ne_ h.op dcd, b1.ne_ b2 dcd, b1.ne_ h.op dcd, b2.ne_ h.op dcd, hp.ne_ h.st dcd, hp.ne_ b1 dcd, hp.ne_ b2 dcd, hp.ne_ h.op dcd⟩
theorem qc0.cells (h : qc0 w base q A c ck ci D) : w.cell? ⟨q.d, 0, none⟩ = some (.slice (some ⟨q.gk, 0, none⟩) D.many ck) ∧ w.cell? ⟨q.d, 1, none⟩ = some (.slice (some ⟨q.gi, 0, none⟩) D.many ci) ∧ w.cell? ⟨q.d, 2, none⟩ = some (.slice A D.waits.length c) ∧ w.cell? ⟨q.d, 3, none⟩ = some (.int .i64 D.room) ∧ w.cell? ⟨q.d, 4, none⟩ = some (.int .i64 D.cut) ∧ w.cell? ⟨q.d, 5, none⟩ = some (.bool D.off) ∧ w.cell? ⟨q.d, 6, none⟩ = some (.slice (some ⟨q.go, 0, none⟩) 3 3) :=
  ⟨h.st.cell 0, h.st.cell 1, h.st.cell 2, h.st.cell 3, h.st.cell 4, h.st.cell 5, h.st.cell 6⟩
theorem qq2.piece {W : List (Nat × List UInt8)} (h : qq2 w base A c W) {k : Nat} (hk : k < W.length) : ∃ (g : Nat) (x : SlV), A = some ⟨g, 0, none⟩ ∧ g < w.heap.size ∧ w.cell? ⟨g, k * 2, none⟩ = some (.int .i64 ((qa9 W k).1 : Nat)) ∧ w.cell? ⟨g, k * 2 + 1, none⟩ = some (slV x) ∧ vb6 x ∧ qb8 w base x (qa9 W k).2 := by
  obtain ⟨ps, ho, hx⟩ := h; obtain ⟨b, o, y, e1, hlt, e2, hc⟩ := ho.rd.at_ (fun _ => rfl) omg hk; obtain ⟨L, e3, e4, e5⟩ := hx k y e2; have e6 : qa9 W k = (y.1, L) := by unfold qa9; rw [List.getD_eq_getElem?_getD, e3]; rfl
  rcases ho.2.2 with ⟨_, h0⟩ | ⟨g, cap, cur, hv, _, hh, _⟩
  · omega
  · injection hv with hv _ _; rw [e1] at hv; injection hv with hv; injection hv with hv ho' _; subst hv ho'; refine ⟨b, y.2, e1, hlt, ?_, ?_, e4, ?_⟩
    · have := hc 0 omg; rw [e6]; simpa [encP] using this
    · have := hc 1 omg; simpa [encP] using this
    · rw [e6]; exact e5
theorem qc0.piece (h : qc0 w base q A c ck ci D) {k : Nat} (hk : k < D.waits.length) : ∃ (g : Nat) (x : SlV), A = some ⟨g, 0, none⟩ ∧ g < w.heap.size ∧ w.cell? ⟨g, k * 2, none⟩ = some (.int .i64 ((qa9 D.waits k).1 : Nat)) ∧ w.cell? ⟨g, k * 2 + 1, none⟩ = some (slV x) ∧ vb6 x ∧ qb8 w base x (qa9 D.waits k).2 := h.wts.piece hk
theorem qc0.row (h : qc0 w base q A c ck ci D) {k : Nat} (hk : k < D.many) : ∃ x : SlV, w.cell? ⟨q.gk, k, none⟩ = some (slV x) ∧ vb6 x ∧ qb8 w base x (qc7 D.kept (k : Int)) := by
  obtain ⟨hs, ho, hx⟩ := h.kept; have hl : k < hs.length := by rw [ho.1]; exact hk
  obtain ⟨b, o, e1, hlt, hc⟩ := ho.rd.2.at_ hk; injection e1 with e1; injection e1 with e2 e3 _; subst e2 e3; rw [qo0 hs k hl, Nat.zero_add] at hc; obtain ⟨q1, q2⟩ := hx k _ (List.getElem?_eq_getElem hl); exact ⟨hs[k], hc, q1, q2⟩
theorem qc0.in_ (h : qc0 w base q A c ck ci D) {k : Nat} (hk : k < D.many) : w.cell? ⟨q.gi, k, none⟩ = some (.bool (D.inuse.getD k false)) := by
  have hl : k < D.inuse.length := by rw [h.ok.inuse]; exact hk
  obtain ⟨b, o, e1, hlt, hc⟩ := h.inu.rd.2.at_ hk; injection e1 with e1; injection e1 with e2 e3 _; subst e2 e3; rw [qo0 _ k hl, Nat.zero_add] at hc; rw [hc, List.getD_eq_getElem?_getD, List.getElem?_eq_getElem hl]; rfl
end
section
variable {w w' : World} {base : Nat} {q : qf0} {A : Option Addr} {c ck ci : Nat} {D : qa3}
theorem ris_any (h : qc0 w base q A c ck ci D) (n : Nat) (hn : n < D.many) : Calls Tryz.prog 256 #[.pointer (some ⟨q.d, 0, none⟩), .int .i64 (n : Nat)] w fun e w' => e = .returned (.bool (D.might.getD n false)) ∧ w = w' := by
  obtain ⟨c0, c1, c2, c3, c4, c5, c6⟩ := h.cells; have hfew := h.ok.few; have hm := h.ok.many1; have HH := hdd h; clear h; go_enter Tryz.func256, Tryz.ntmps256; go_wp2; go_loopw [5] (fun i wr => ∃ k : Nat, k ≤ D.waits.length ∧ i = .int .i64 (k : Nat) ∧ (∀ j, j < k → (qa9 D.waits j).1 ≠ n) ∧ w = wr) (fun i _ => D.waits.length - (intOf i).toNat)
  case atStart => exact ⟨0, omg, rfl, fun j hj => absurd hj omg, rfl⟩
  case round =>
    obtain ⟨k, hk, rfl, hno, rfl⟩ := hrel; have HNO := hdd hno; clear hno
    by_cases hlt : k < D.waits.length
    · obtain ⟨g, x, hA, hg, e0, e1, _, _⟩ := HH.out.piece hlt; have hp := (qj4 HH.out.ok hlt).1; have HA := hdd hA; have hit : (qa9 D.waits k).1 = n → Hid (D.might.getD n false = true) := fun e => HH.out.cons.is_hit HH.out.ok hn hlt e
      obtain ⟨pn, hpn⟩ : ∃ pn, (qa9 D.waits k).1 = pn := ⟨_, rfl⟩; rw [hpn] at e0 hp hit; have HPN := hdd hpn; clear hpn
      by_cases hx : pn = n
      · have hB : ((pn : Int) == (n : Int)) = true := by rw [hx]; simp
        have hy := hit hx; clear hx hit; subst hA; go_wp2; go_ret; exact ⟨qb9 hy.out.symm, rfl⟩
      · have hB : ((pn : Int) == (n : Int)) = false := by rw [beq_eq_false_iff_ne]; omega
        have hno2 : Hid (∀ j, j < k + 1 → (qa9 D.waits j).1 ≠ n) := fun j hj => by
          rcases Nat.lt_or_ge j k with q1 | q1
          · exact HNO.out j q1
          · have : j = k := omg; subst this; rw [HPN.out]; exact hx
        clear hit; subst hA; go_wp2; go_roundw
        case rel => first
          | exact ⟨k + 1, omg, by go_num, hno2.out, trivial⟩
          | ((repeat apply Exists.intro); exact ⟨⟨k + 1, omg, by go_num, hno2.out, trivial⟩, rfl⟩)
        case measure => simp [intOf]; omega
    · have hk9 : k = D.waits.length := omg; have hnone : Hid (D.inuse.getD n false = D.might.getD n false) := by show _ = _; rw [HH.out.cons.is_none (fun j hj => HNO.out j omg)]
      have hin := HH.out.in_ hn; clear hk9; go_wp2; go_ret; exact ⟨qb9 hnone.out, rfl⟩
theorem rat_any (h : qc0 w base q A c ck ci D) (n : Nat) (hn : n < D.many) : Calls Tryz.prog 263 #[.pointer (some ⟨q.d, 0, none⟩), .int .i64 (n : Nat)] w fun e w' => ∃ x : SlV, e = .returned (slV x) ∧ vb6 x ∧ qb8 w base x (qc7 D.now (n : Int)) ∧ w = w' := by
  obtain ⟨c0, c1, c2, c3, c4, c5, c6⟩ := h.cells; have hfew := h.ok.few; have hm := h.ok.many1; have HH := hdd h; clear h; go_enter Tryz.func263, Tryz.ntmps263; go_wp2; go_loopw [5] (fun i wr => ∃ k : Nat, k ≤ D.waits.length ∧ i = .int .i64 (k : Nat) ∧ (∀ j, k ≤ j → j < D.waits.length → (qa9 D.waits j).1 ≠ n) ∧ w = wr) (fun i _ => (intOf i).toNat)
  case atStart => exact ⟨D.waits.length, omg, rfl, fun j hj h2 => absurd hj omg, rfl⟩
  case round =>
    obtain ⟨k, hk, rfl, hno, rfl⟩ := hrel; have HNO := hdd hno; clear hno
    by_cases hlt : 0 < k
    · obtain ⟨k, rfl⟩ : ∃ k', k = k' + 1 := ⟨k - 1, omg⟩; have hlt2 : k < D.waits.length := omg; obtain ⟨g, x, hA, hg, e0, e1, hxn, hby⟩ := HH.out.piece hlt2; have hp := (qj4 HH.out.ok hlt2).1; have HA := hdd hA; have hit : (qa9 D.waits k).1 = n → Hid (qc7 D.now (n : Int) = (qa9 D.waits k).2) := fun e => HH.out.cons.at_hit HH.out.ok hn hlt2 e (fun j h1 h2 => HNO.out j h1 h2)
      obtain ⟨pn, hpn⟩ : ∃ pn, (qa9 D.waits k).1 = pn := ⟨_, rfl⟩; rw [hpn] at e0 hp hit; have HPN := hdd hpn; have HBY := hdd hby; have HXN := hdd hxn; clear hpn hby hxn; have hk1 : ((k + 1 : Nat) : Int) - 1 = (k : Int) := omg; have HK1 := hdd hk1; have hkk : (((k + 1 : Nat) : Int) - 1).toNat = k := omg; have hkI : ((k + 1 : Nat) : Int) - 1 < D.waits.length := omg; have hkI0 : 0 ≤ ((k + 1 : Nat) : Int) - 1 := omg; clear hk1
      by_cases hx : pn = n
      · have hB : ((pn : Int) == (n : Int)) = true := by rw [hx]; simp
        have hy := hit hx; clear hx hit; subst hA; go_wp2; go_ret; exact ⟨x, rfl, HXN.out, by rw [hy.out]; exact HBY.out, rfl⟩
      · have hB : ((pn : Int) == (n : Int)) = false := by rw [beq_eq_false_iff_ne]; omega
        have hno2 : Hid (∀ j, k ≤ j → j < D.waits.length → (qa9 D.waits j).1 ≠ n) := fun j hj h2 => by
          rcases Nat.lt_or_ge k j with q1 | q1
          · exact HNO.out j q1 h2
          · have : j = k := omg; subst this; rw [HPN.out]; exact hx
        clear hit; subst hA; go_wp2; go_roundw
        case rel => first
          | exact ⟨k, omg, by go_num, hno2.out, trivial⟩
          | ((repeat apply Exists.intro); exact ⟨⟨k, omg, by go_num, hno2.out, trivial⟩, rfl⟩)
        case measure => first | (simp [intOf]; done) | (simp [intOf]; omega)
    · have hk9 : k = 0 := omg; subst hk9; have hnone : Hid (qc7 D.now (n : Int) = qc7 D.kept (n : Int)) := HH.out.cons.at_none HH.out.ok hn (fun j hj => HNO.out j (Nat.zero_le _) hj); obtain ⟨x, hc, hxn, hby⟩ := HH.out.row hn; have HBY := hdd hby; have HXN := hdd hxn; clear hby hxn; go_wp2; go_ret; exact ⟨x, rfl, HXN.out, by rw [hnone.out]; exact HBY.out, rfl⟩
theorem rused_any (h : qc0 w base q A c ck ci D) : Calls Tryz.prog 257 #[.pointer (some ⟨q.d, 0, none⟩)] w fun e w' => e = .returned (.int .i64 (qh2 D.might : Nat)) ∧ w = w' := by
  obtain ⟨c0, c1, c2, c3, c4, c5, c6⟩ := h.cells; have hm := h.ok.many1; have hml := h.ok.might; have HH := hdd h; clear h; go_enter Tryz.func257, Tryz.ntmps257; go_wp2; go_loopw [3, 4] (fun m i wr => ∃ k : Nat, k ≤ D.many ∧ i = .int .i64 (k : Nat) ∧ m = .int .i64 (qh2 (D.might.take k) : Nat) ∧ w = wr) (fun _ i _ => D.many - (intOf i).toNat)
  case atStart => exact ⟨0, omg, rfl, rfl, rfl⟩
  case round =>
    obtain ⟨k, hk, rfl, rfl, rfl⟩ := hrel
    by_cases hlt : k < D.many
    · have hs := vg4 D.might k omg; have hle := trues_le (D.might.take k); have hll : (D.might.take k).length ≤ k := List.length_take_le _ _; have hC := ris_any HH.out k hlt; obtain ⟨b, hb⟩ : ∃ b, D.might.getD k false = b := ⟨_, rfl⟩; rw [hb] at hC hs; have HS := hdd hs; clear hs hb
      cases b with
      | true =>
        go_wp2_with (first | (go_at_call 256; (with_reducible refine (hC).mono ?_); rintro e w1 ⟨rfl, rfl⟩) | fail "no arm"); go_roundw
        case rel =>
          have e1 : Value.int .i64 ((qh2 (D.might.take k) : Int) + 1) = .int .i64 (qh2 (D.might.take (k + 1)) : Nat) := by rw [HS.out]; try simp
          first
            | exact ⟨k + 1, omg, by go_num, e1, trivial⟩
            | ((repeat apply Exists.intro); exact ⟨⟨k + 1, omg, by go_num, e1, trivial⟩, rfl⟩)
        case measure => simp [intOf]; omega
      | false =>
        go_wp2_with (first | (go_at_call 256; (with_reducible refine (hC).mono ?_); rintro e w1 ⟨rfl, rfl⟩) | fail "no arm"); go_roundw
        case rel =>
          have e1 : Value.int .i64 (qh2 (D.might.take k) : Nat) = .int .i64 (qh2 (D.might.take (k + 1)) : Nat) := by rw [HS.out]; try simp
          first
            | exact ⟨k + 1, omg, by go_num, e1, trivial⟩
            | ((repeat apply Exists.intro); exact ⟨⟨k + 1, omg, by go_num, e1, trivial⟩, rfl⟩)
        case measure => simp [intOf]; omega
    · have hk9 : k = D.many := omg; have hall : Hid ((qh2 (D.might.take k) : Int) = (qh2 D.might : Nat)) := by show _ = _; rw [List.take_of_length_le omg]
      clear hk9; go_wp2; go_ret; exact ⟨qw6 hall.out, rfl⟩
end
theorem opsC_add {o : List Int} (h : o.length = 6) (K : Nat) (hK : K < 3) : (opsC o).set K (.int .i64 (wrap64 (mGet o ((K : Int) + 1) + 1))) = opsC (mAdd o ((K : Int) + 1) 1) := by
  match o, h with
  | [a, b, c, d, e, f], _ =>
    match K, hK with
    | 0, _ => rfl
    | 1, _ => rfl
    | 2, _ => rfl
theorem mAdd_len (o : List Int) (k n : Int) : (mAdd o k n).length = o.length := by unfold mAdd; split; exact mPut_len _ _ _; rfl
section
variable {F : Nat → Prop} {w w' : World} {base : Nat} {q : qf0} {A : Option Addr} {c ck ci : Nat} {D : qa3}
theorem qb8.keepF {h : SlV} {L : List UInt8} (H : qb8 w base h L) (k : Keep F w w') (hF : ∀ g, F g → base ≤ g ∧ ∀ cs, ¬ Blk w g 5 cs) : qb8 w' base h L := by
  have hne : ∀ g, 0 < h.n → h.a.map (·.block) = some g → ¬ F g := fun g h0 hg e => by
    obtain ⟨q1, q2⟩ := hF g e; rcases H.2.2 h0 g hg with q | ⟨cs, q⟩
    · omega
    · exact q2 cs q
  refine ⟨⟨H.1.1, fun h0 => (H.1.2.sameB k.size (fun b hb hlt => k.block b hlt (hne b h0 hb))) h0⟩, H.2.1, fun h0 g hg' => ?_⟩; rcases H.2.2 h0 g hg' with q | ⟨cs, q⟩
  · exact .inl q
  · exact .inr ⟨cs, q.keep k (hne g h0 hg')⟩
theorem qi8.keepF {gk many : Nat} {kept : List UInt8} (h : qi8 w base gk many ck kept) (k : Keep F w w') (hF : ∀ g, F g → base ≤ g ∧ ∀ cs, ¬ Blk w g 5 cs) (hg : ¬ F gk) : qi8 w' base gk many ck kept := by
  obtain ⟨hs, ho, hk⟩ := h; exact ⟨hs, ⟨ho.1, qe7 ho.2 k (fun g e => (by have : gk = g := (by simpa [Value.ownBlock] using e); rw [← this]; exact hg))⟩, fun j x hx => ⟨(hk j x hx).1, (hk j x hx).2.keepF k hF⟩⟩
theorem qq2.keepF {W : List (Nat × List UInt8)} (h : qq2 w base A c W) (k : Keep F w w') (hF : ∀ g, F g → base ≤ g ∧ ∀ cs, ¬ Blk w g 5 cs) (hg : ∀ g, A.map (·.block) = some g → ¬ F g) : qq2 w' base A c W := by
  obtain ⟨ps, ho, hk⟩ := h; exact ⟨ps, ⟨ho.1, qe7 ho.2 k (fun g e => hg g (by cases A with | none => simp [Value.ownBlock] at e | some a => simpa [Value.ownBlock] using e))⟩, fun j x hx => by obtain ⟨L, h1, h2, h3⟩ := hk j x hx; exact ⟨L, h1, h2, h3.keepF k hF⟩⟩
theorem ql2 {g : Nat} {t : TypeId} {cs : List Value} (h : Blk w g t cs) (ht : t ≠ 5) : ∀ cs', ¬ Blk w g 5 cs' := fun cs' e => absurd rfl (h.ne_ e ht)
theorem qc0.turnHead {cut : Int} {off : Bool} {o : List Int} (h : qc0 w base q A c ck ci D) (k : Keep (fun g => g = q.d ∨ g = q.go) w w') (hst : Blk w' q.d 124 (rdC q D.many ck ci A D.waits.length c D.room cut off)) (hop : Blk w' q.go 3 (opsC o)) (ho : o.length = 6) (hc : -1 ≤ cut ∧ cut ≤ 9223372036854775807) :
    qc0 w' base q A c ck ci { D with cut := cut, off := off, ops := o } := by
  obtain ⟨p1, p2, p3, p4, p5, p6, p7, p8, p9, p10⟩ := h.apart; have hF : ∀ g, (g = q.d ∨ g = q.go) → base ≤ g ∧ ∀ cs, ¬ Blk w g 5 cs := fun g e => by
    rcases e with e | e
    · subst e; exact ⟨h.bd, ql2 h.st dcd⟩
    · subst e; exact ⟨h.bo, ql2 h.op dcd⟩
  refine ⟨⟨h.ok.many0, h.ok.many1, h.ok.kept, h.ok.now, h.ok.inuse, h.ok.might, h.ok.waits, h.ok.room, hc, h.ok.few⟩, ⟨h.cons.now, h.cons.might, h.cons.used⟩, ho, hst, h.kept.keepF k hF omg, ⟨h.inu.1, qe7 h.inu.2 k (fun g e => (by have : q.gi = g := (by simpa [Value.ownBlock] using e); intro e9; rcases e9 with e9 | e9 <;> omega))⟩, h.wts.keepF k hF (fun g hg e => ?_), hop, h.bd, h.bo⟩; rcases e with e | e
  · subst e; exact p7 hg
  · subst e; exact p10 hg
theorem rgoes_any (h : qc0 w base q A c ck ci D) (hoff : D.off = false) (K : Int) (hK : K = 1 ∨ K = 2) : Calls Tryz.prog 216 #[.pointer (some ⟨q.d, 0, none⟩), .int .i64 K] w fun e w' => e = .returned (.bool (D.cut == 0)) ∧ qc0 w' base q A c ck ci (qp5 D (K + 1)) ∧ Keep (fun g => g = q.d ∨ g = q.go) w w' := by
  obtain ⟨c0, c1, c2, c3, c4, c5, c6⟩ := h.cells; have o0 : w.cell? ⟨q.go, 0, none⟩ = some (.int .i64 (mGet D.ops 1)) := h.op.cell 0; have o1 : w.cell? ⟨q.go, 1, none⟩ = some (.int .i64 (mGet D.ops 2)) := h.op.cell 1; have o2 : w.cell? ⟨q.go, 2, none⟩ = some (.int .i64 (mGet D.ops 3)) := h.op.cell 2; have f0 := h.op.frozen; have f1 := h.st.frozen; have hne : q.d ≠ q.go := h.apart.2.2.1; have hl1 := h.st.lt; have hl2 := h.op.lt; have hcut := h.ok.cut; have HH := hdd h; have hset := fun (j : Nat) (hj : j < 3) => opsC_add h.ops j hj
  have HS := hdd hset; have HO := hdd hoff; have hst1 := Blk.cell h.st 5; clear hst1; have hstF : rdC q D.many ck ci A D.waits.length c D.room D.cut D.off = rdC q D.many ck ci A D.waits.length c D.room D.cut false := by rw [hoff]
  have HSTF := hdd hstF; rw [hoff] at c5; have key : ∀ (W : World) (j : Nat) (cut : Int) (off : Bool), j < 3 → Keep (fun g => g = q.d ∨ g = q.go) w W → Blk W q.d 124 (rdC q D.many ck ci A D.waits.length c D.room cut off) → Blk W q.go 3 ((opsC D.ops).set j (.int .i64 (wrap64 (mGet D.ops ((j : Int) + 1) + 1)))) → (-1 ≤ cut ∧ cut ≤ 9223372036854775807) → cut = (if 0 ≤ D.cut then D.cut - 1 else D.cut) → off = (D.cut == 0) → qc0 W base q A c ck ci (qp5 D ((j : Int) + 1)) := fun W j cut off hj k hst hop hc e1 e2 => by
    rw [HS.out j hj] at hop; have := HH.out.turnHead k hst hop (by rw [mAdd_len]; exact HH.out.ops) hc; subst e1 e2; exact this
  have HK := hdd key; clear h hoff hset key hstF; have hneg : D.cut < 0 ∨ (D.cut = 0 ∨ 0 < D.cut) := omg; obtain ⟨ct, hct⟩ : ∃ ct, D.cut = ct := ⟨_, rfl⟩; rw [hct] at hneg hcut c4; have HC := hdd hct; clear hct; have hst := HH.out.st; rw [HSTF.out, HC.out] at hst; have HST := hdd hst; have HOP := hdd HH.out.op; clear hst; rcases hK with rfl | rfl
  · rcases hneg with h1 | h1 | h1
    · have h9 := h1; have hres := hdd (show (D.cut == 0) = false from (by rw [HC.out, beq_eq_false_iff_ne]; omega)); go_enter Tryz.func216, Tryz.ntmps216; go_wp2_with fail; refine qb6 14 (by kernel_rfl) (by kernel_rfl) ?_; simp only [List.take_succ_cons, List.take_zero, List.drop_succ_cons, List.drop_zero]
      repeat (go_big_quiet_step (fail))
      refine wpQuiet_nil ?_; go_wp2; go_ret; exact ⟨qb9 hres.out.symm, HK.out _ 1 (ct) false omg (((Keep.refl _ w).set_ _ (.inr rfl)).drewN 1) ((HST.out.far (p := ⟨q.go, 1, none⟩) hne _).drew) ((HOP.out.set_ 1 _).drew) omg (by rw [HC.out]; split <;> omega) hres.out.symm, ((Keep.refl _ w).set_ _ (.inr rfl)).drewN 1⟩
    · have h9 := h1; subst h1; have hres := hdd (show (D.cut == 0) = true from (by rw [HC.out]; rfl)); go_enter Tryz.func216, Tryz.ntmps216; go_wp2_with fail; refine qb6 14 (by kernel_rfl) (by kernel_rfl) ?_; simp only [List.take_succ_cons, List.take_zero, List.drop_succ_cons, List.drop_zero]
      repeat (go_big_quiet_step (fail))
      refine wpQuiet_nil ?_; go_wp2; go_ret; exact ⟨qb9 hres.out.symm, HK.out _ 1 (-1) true omg (((((Keep.refl _ w).set_ _ (.inr rfl)).set_ _ (.inl rfl)).set_ _ (.inl rfl)).drewN 1) ((((HST.out.far (p := ⟨q.go, 1, none⟩) hne _).set_ 4 _).set_ 5 _).drew) ((((HOP.out.set_ 1 _).far (p := ⟨q.d, 4, none⟩) hne.symm _).far (p := ⟨q.d, 5, none⟩) hne.symm _).drew) omg (by rw [HC.out]; split <;> omega) hres.out.symm, ((((Keep.refl _ w).set_ _ (.inr rfl)).set_ _ (.inl rfl)).set_ _ (.inl rfl)).drewN 1⟩
    · have h9 : decide (ct - 1 < 0) = false := by rw [decide_eq_false_iff_not]; omega
      have hres := hdd (show (D.cut == 0) = false from (by rw [HC.out, beq_eq_false_iff_ne]; omega)); go_enter Tryz.func216, Tryz.ntmps216; go_wp2_with fail; refine qb6 14 (by kernel_rfl) (by kernel_rfl) ?_; simp only [List.take_succ_cons, List.take_zero, List.drop_succ_cons, List.drop_zero]
      repeat (go_big_quiet_step (fail))
      refine wpQuiet_nil ?_; go_wp2; go_ret; exact ⟨qb9 hres.out.symm, HK.out _ 1 (ct - 1) false omg (((((Keep.refl _ w).set_ _ (.inr rfl)).set_ _ (.inl rfl)).set_ _ (.inl rfl)).drewN 1) ((((HST.out.far (p := ⟨q.go, 1, none⟩) hne _).set_ 4 _).set_ 5 _).drew) ((((HOP.out.set_ 1 _).far (p := ⟨q.d, 4, none⟩) hne.symm _).far (p := ⟨q.d, 5, none⟩) hne.symm _).drew) omg (by rw [HC.out]; split <;> omega) hres.out.symm, ((((Keep.refl _ w).set_ _ (.inr rfl)).set_ _ (.inl rfl)).set_ _ (.inl rfl)).drewN 1⟩
  · rcases hneg with h1 | h1 | h1
    · have h9 := h1; have hres := hdd (show (D.cut == 0) = false from (by rw [HC.out, beq_eq_false_iff_ne]; omega)); go_enter Tryz.func216, Tryz.ntmps216; go_wp2_with fail; refine qb6 14 (by kernel_rfl) (by kernel_rfl) ?_; simp only [List.take_succ_cons, List.take_zero, List.drop_succ_cons, List.drop_zero]
      repeat (go_big_quiet_step (fail))
      refine wpQuiet_nil ?_; go_wp2; go_ret; exact ⟨qb9 hres.out.symm, HK.out _ 2 (ct) false omg (((Keep.refl _ w).set_ _ (.inr rfl)).drewN 1) ((HST.out.far (p := ⟨q.go, 2, none⟩) hne _).drew) ((HOP.out.set_ 2 _).drew) omg (by rw [HC.out]; split <;> omega) hres.out.symm, ((Keep.refl _ w).set_ _ (.inr rfl)).drewN 1⟩
    · have h9 := h1; subst h1; have hres := hdd (show (D.cut == 0) = true from (by rw [HC.out]; rfl)); go_enter Tryz.func216, Tryz.ntmps216; go_wp2_with fail; refine qb6 14 (by kernel_rfl) (by kernel_rfl) ?_; simp only [List.take_succ_cons, List.take_zero, List.drop_succ_cons, List.drop_zero]
      repeat (go_big_quiet_step (fail))
      refine wpQuiet_nil ?_; go_wp2; go_ret; exact ⟨qb9 hres.out.symm, HK.out _ 2 (-1) true omg (((((Keep.refl _ w).set_ _ (.inr rfl)).set_ _ (.inl rfl)).set_ _ (.inl rfl)).drewN 1) ((((HST.out.far (p := ⟨q.go, 2, none⟩) hne _).set_ 4 _).set_ 5 _).drew) ((((HOP.out.set_ 2 _).far (p := ⟨q.d, 4, none⟩) hne.symm _).far (p := ⟨q.d, 5, none⟩) hne.symm _).drew) omg (by rw [HC.out]; split <;> omega) hres.out.symm, ((((Keep.refl _ w).set_ _ (.inr rfl)).set_ _ (.inl rfl)).set_ _ (.inl rfl)).drewN 1⟩
    · have h9 : decide (ct - 1 < 0) = false := by rw [decide_eq_false_iff_not]; omega
      have hres := hdd (show (D.cut == 0) = false from (by rw [HC.out, beq_eq_false_iff_ne]; omega)); go_enter Tryz.func216, Tryz.ntmps216; go_wp2_with fail; refine qb6 14 (by kernel_rfl) (by kernel_rfl) ?_; simp only [List.take_succ_cons, List.take_zero, List.drop_succ_cons, List.drop_zero]
      repeat (go_big_quiet_step (fail))
      refine wpQuiet_nil ?_; go_wp2; go_ret; exact ⟨qb9 hres.out.symm, HK.out _ 2 (ct - 1) false omg (((((Keep.refl _ w).set_ _ (.inr rfl)).set_ _ (.inl rfl)).set_ _ (.inl rfl)).drewN 1) ((((HST.out.far (p := ⟨q.go, 2, none⟩) hne _).set_ 4 _).set_ 5 _).drew) ((((HOP.out.set_ 2 _).far (p := ⟨q.d, 4, none⟩) hne.symm _).far (p := ⟨q.d, 5, none⟩) hne.symm _).drew) omg (by rw [HC.out]; split <;> omega) hres.out.symm, ((((Keep.refl _ w).set_ _ (.inr rfl)).set_ _ (.inl rfl)).set_ _ (.inl rfl)).drewN 1⟩
theorem rcut_any (h : qc0 w base q A c ck ci D) (n : Int) (hn : n ≤ 9223372036854775807) : Calls Tryz.prog 22 #[.pointer (some ⟨q.d, 0, none⟩), .int .i64 n] w fun e w' => e = .returned (.tuple #[]) ∧ qc0 w' base q A c ck ci { D with cut := max n (-1) } ∧ Keep (fun g => g = q.d ∨ g = q.go) w w' := by
  obtain ⟨c0, c1, c2, c3, c4, c5, c6⟩ := h.cells; have f1 := h.st.frozen 4; have hne : q.d ≠ q.go := h.apart.2.2.1; have hl1 := h.st.lt; have HH := hdd h; have key : ∀ (W : World), Keep (fun g => g = q.d ∨ g = q.go) w W → Blk W q.d 124 (rdC q D.many ck ci A D.waits.length c D.room (max n (-1)) D.off) → Blk W q.go 3 (opsC D.ops) → qc0 W base q A c ck ci { D with cut := max n (-1) } := fun W k hst hop => HH.out.turnHead k hst hop HH.out.ops omg
  have HK := hdd key; clear h key
  by_cases hneg : n < 0
  · have hmx : Hid (max n (-1) = -1) := by show _ = _; omega
    go_enter Tryz.func22, Tryz.ntmps22; go_wp2; go_end0; have k : Keep (fun g => g = q.d ∨ g = q.go) w ((w.setCell ⟨q.d, 4, none⟩ (.int .i64 n)).setCell ⟨q.d, 4, none⟩ (.int .i64 (-1))) := ((Keep.refl _ w).set_ _ (.inl rfl)).set_ _ (.inl rfl); exact ⟨rfl, HK.out _ k (by rw [hmx.out]; exact (HH.out.st.set_ 4 _).set_ 4 _) ((HH.out.op.far (p := ⟨q.d, 4, none⟩) hne.symm _).far (p := ⟨q.d, 4, none⟩) hne.symm _), k⟩
  · have hmx : Hid (max n (-1) = n) := by show _ = _; omega
    go_enter Tryz.func22, Tryz.ntmps22; go_wp2; go_end0; have k : Keep (fun g => g = q.d ∨ g = q.go) w (w.setCell ⟨q.d, 4, none⟩ (.int .i64 n)) := (Keep.refl _ w).set_ _ (.inl rfl); exact ⟨rfl, HK.out _ k (by rw [hmx.out]; exact HH.out.st.set_ 4 _) (HH.out.op.far (p := ⟨q.d, 4, none⟩) hne.symm _), k⟩
theorem rread_no (h : qc0 w base q A c ck ci D) (n : Int) (hn : mayV D n ≠ 0) : Calls Tryz.prog 232 #[.pointer (some ⟨q.d, 0, none⟩), .int .i64 n] w fun e w' => e = .returned (.tuple #[.slice none 0 0, .int .i64 (mayV D n)]) ∧ w = w' := by
  obtain ⟨c0, c1, c2, c3, c4, c5, c6⟩ := h.cells; unfold mayV at hn ⊢; clear h
  cases ho : D.off with
  | true =>
    rw [ho] at c5; simp only [if_true]; clear hn ho; go_enter Tryz.func232, Tryz.ntmps232; go_wp2; go_ret2; exact ⟨rfl, rfl⟩
  | false =>
    rw [ho] at c5 hn; simp only [Bool.false_eq_true, if_false] at hn ⊢
    by_cases hr : n < 0 ∨ (D.many : Int) ≤ n
    · rw [if_pos hr]; have hc : n < 0 ∨ (0 ≤ n ∧ (D.many : Int) ≤ n) := omg; clear hn ho hr; rcases hc with h1 | ⟨h1, h2⟩
      all_goals
        go_enter Tryz.func232, Tryz.ntmps232; go_wp2; go_ret2; exact ⟨rfl, rfl⟩
    · rw [if_neg hr] at hn; exact absurd rfl hn
theorem rread_yes (h : qc0 w base q A c ck ci D) (n : Nat) (hoff : D.off = false) (hn : n < D.many) : Calls Tryz.prog 232 #[.pointer (some ⟨q.d, 0, none⟩), .int .i64 (n : Nat)] w fun e w' => ∃ x : SlV, e = .returned (.tuple #[slV x, .int .i64 0]) ∧ vb6 x ∧ qb8 w' base x (qc7 D.now (n : Int)) ∧ qc0 w' base q A c ck ci (qt1 D) ∧ Keep (fun g => g = q.d ∨ g = q.go) w w' := by
  obtain ⟨c0, c1, c2, c3, c4, c5, c6⟩ := h.cells; have o0 : w.cell? ⟨q.go, 0, none⟩ = some (.int .i64 (mGet D.ops 1)) := h.op.cell 0; have f0 := h.op.frozen 0; have hne : q.d ≠ q.go := h.apart.2.2.1; have hl2 := h.op.lt; rw [hoff] at c5; have k : Keep (fun g => g = q.d ∨ g = q.go) w ((w.setCell ⟨q.go, 0, none⟩ (.int .i64 (wrap64 (mGet D.ops 1 + 1)))).drew) := ((Keep.refl _ w).set_ _ (.inr rfl)).drewN 1; have hop : Blk ((w.setCell ⟨q.go, 0, none⟩ (.int .i64 (wrap64 (mGet D.ops 1 + 1)))).drew) q.go 3 ((opsC D.ops).set 0 (.int .i64 (wrap64 (mGet D.ops 1 + 1)))) := (h.op.set_ 0 _).drew; have hadd : (opsC D.ops).set 0 (.int .i64 (wrap64 (mGet D.ops 1 + 1))) = opsC (mAdd D.ops 1 1) := opsC_add h.ops 0 omg; rw [hadd] at hop; have h5 : qc0 ((w.setCell ⟨q.go, 0, none⟩ (.int .i64 (wrap64 (mGet D.ops 1 + 1)))).drew) base q A c ck ci (qt1 D) := h.turnHead k ((h.st.far (p := ⟨q.go, 0, none⟩) hne _).drew) hop (by rw [mAdd_len]; exact h.ops) h.ok.cut; have hC := rat_any h5 n hn; have H5 := hdd h5; have KK := hdd k; have hm := h.ok.many1; clear h h5 k hop hadd hoff; go_enter Tryz.func232, Tryz.ntmps232; go_wp2_with fail; refine qb6 12 (by kernel_rfl) (by kernel_rfl) ?_; simp only [List.take_succ_cons, List.take_zero, List.drop_succ_cons, List.drop_zero]
  repeat (go_big_quiet_step (fail))
  refine wpQuiet_nil ?_; go_wp2_with (first | ((go_at_call 263; (with_reducible refine (hC).mono ?_); rintro e w2 ⟨x, rfl, hx, hb, rfl⟩)) | fail "no arm"); go_ret2; exact ⟨x, rfl, hx, hb, H5.out, KK.out⟩
end
end Go.Proofs.YtpmkpckldnnigaaGreat
