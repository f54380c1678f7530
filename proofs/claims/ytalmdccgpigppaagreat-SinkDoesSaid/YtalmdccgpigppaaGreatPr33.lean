/- Parts: RJrnB. -/
import Derived.Test.YtalmdccgpigppaaGreatPr32
import Derived.Test.YtalmdccgpigppaaGreatPr19
namespace Go.Proofs.YtalmdccgpigppaaGreat
open Go.RowKit
set_option linter.unusedVariables false
set_option linter.unusedSimpArgs false
/-- Which of the sectors behind N are not blank. -/
def fromK (now : List UInt8) (f N : Nat) : Nat → List Int
  | 0 => []
  | k + 1 => if secOf now ((f + (N + k) : Nat) : Int) = zerosL then fromK now f N k else fromK now f N k ++ [((N + k : Nat) : Int)]
theorem scanK_front {now : List UInt8} {f : Nat} {kind : Int} : ∀ N, (∀ k, k < N → recB (secOf now ((f + k : Nat) : Int)) kind k = true) → scanK now f kind N = (true, N, []) := by
  intro N
  induction N with
  | zero => intro _; rfl
  | succ N ih =>
    intro h
    have e := ih (fun k hk => h k (by omega))
    unfold scanK
    rw [e, if_pos ⟨rfl, h N (by omega)⟩]
theorem scanK_back {now : List UInt8} {f N : Nat} {kind : Int} (h : scanK now f kind N = (true, N, [])) (hN : recB (secOf now ((f + N : Nat) : Int)) kind N = false) : ∀ k, (scanK now f kind (N + k)).2 = (N, fromK now f N k) ∧ (0 < k → (scanK now f kind (N + k)).1 = false) := by
  intro k
  induction k with
  | zero => rw [Nat.add_zero, h]; exact ⟨rfl, fun e => absurd e (by omega)⟩
  | succ k ih =>
    have hc : ¬ ((scanK now f kind (N + k)).1 = true ∧ recB (secOf now ((f + (N + k) : Nat) : Int)) kind (N + k) = true) := fun e => by
      rcases Nat.eq_zero_or_pos k with q | q
      · subst q
        rw [Nat.add_zero, hN] at e
        exact absurd e.2 (by simp)
      · rw [ih.2 q] at e
        exact absurd e.1 (by simp)
    have e0 : scanK now f kind (N + (k + 1)) = (false, (scanK now f kind (N + k)).2.1, if secOf now ((f + (N + k) : Nat) : Int) = zerosL then (scanK now f kind (N + k)).2.2 else (scanK now f kind (N + k)).2.2 ++ [((N + k : Nat) : Int)]) := by
      rw [← Nat.add_assoc]
      show (if _ then _ else _) = _
      rw [if_neg hc]
    rw [e0, ih.1]
    exact ⟨rfl, fun _ => rfl⟩
theorem fromK_more (now : List UInt8) (f N k : Nat) : ∀ j, ∃ l, fromK now f N (k + j) = fromK now f N k ++ l := by
  intro j
  induction j with
  | zero => exact ⟨[], by simp⟩
  | succ j ih =>
    obtain ⟨l, e⟩ := ih
    rw [← Nat.add_assoc]
    by_cases hz : secOf now ((f + (N + (k + j)) : Nat) : Int) = zerosL
    · exact ⟨l, by rw [← e]; show (if _ then _ else _) = _; rw [if_pos hz]⟩
    · exact ⟨l ++ [((N + (k + j) : Nat) : Int)], by rw [← List.append_assoc, ← e]; show (if _ then _ else _) = _; rw [if_neg hz]⟩
theorem wipeK_app {f m : Nat} (l' : List Int) : ∀ (l : List Int) (D : DiskV), (wipeK D f m l).2 = 0 → wipeK D f m (l ++ l') = wipeK (wipeK D f m l).1 f m l' := by
  intro l
  induction l with
  | nil => intro D _; rfl
  | cons n l ih =>
    intro D h
    by_cases he : (aWriteV D f m n zerosL).2 = 0
    · rw [List.cons_append, wipeK_step he]
      rw [wipeK_step he] at h ⊢
      exact ih _ h
    · rw [wipeK_stop he] at h
      exact absurd h he
theorem wipeK_bad {f m : Nat} (l' : List Int) : ∀ (l : List Int) (D : DiskV), (wipeK D f m l).2 ≠ 0 → wipeK D f m (l ++ l') = wipeK D f m l := by
  intro l
  induction l with
  | nil => intro D h; exact absurd rfl h
  | cons n l ih =>
    intro D h
    by_cases he : (aWriteV D f m n zerosL).2 = 0
    · rw [List.cons_append, wipeK_step he]
      rw [wipeK_step he] at h ⊢
      exact ih _ h
    · rw [List.cons_append, wipeK_stop he, wipeK_stop he]
theorem wipeK_one (D : DiskV) (f m : Nat) (n : Int) : wipeK D f m [n] = aWriteV D f m n zerosL := by
  by_cases he : (aWriteV D f m n zerosL).2 = 0
  · rw [wipeK_step he]
    show ((aWriteV D f m n zerosL).1, (0 : Int)) = _
    rw [← he]
  · rw [wipeK_stop he]
theorem wipe_more {now : List UInt8} {f m nx t : Nat} {D1 Dj : DiskV} {n : Int} (hwk : wipeK D1 f m (fromK now f nx t) = (Dj, 0)) (hf : fromK now f nx (t + 1) = fromK now f nx t ++ [n]) : wipeK D1 f m (fromK now f nx (t + 1)) = aWriteV Dj f m n zerosL := by
  rw [hf, wipeK_app _ _ _ (by rw [hwk]), hwk, wipeK_one]
theorem wipe_fail {now : List UInt8} {f m nx t : Nat} {D1 Dj : DiskV} {n : Int} (hwk : wipeK D1 f m (fromK now f nx t) = (Dj, 0)) (hf : fromK now f nx (t + 1) = fromK now f nx t ++ [n]) (hz : (aWriteV Dj f m n zerosL).2 ≠ 0) (j : Nat) : wipeK D1 f m (fromK now f nx (t + 1 + j)) = aWriteV Dj f m n zerosL := by
  have h := wipe_more hwk hf
  obtain ⟨l, e⟩ := fromK_more now f nx (t + 1) j
  rw [e, wipeK_bad _ _ _ (by rw [h]; exact hz), h]
section
variable {F : Nat → Prop} {w w' w0 wr : World} {base ga gj f m nx : Nat} {kind : Int} {q : RDiskP} {D D' : DiskV} {B : Option Addr} {N c : Nat} {now : List UInt8}
/-- What has been read so far. -/
def RAll (w : World) (base b0 : Nat) (B : Option Addr) (N c : Nat) (now : List UInt8) (f : Nat) : Prop :=
  ∃ hs : List SlV, Ow slV w b0 22 B N c hs ∧ ∀ (j : Nat) (x : SlV), hs[j]? = some x → x.n = 128 ∧ 128 ≤ x.c ∧ BytesAt w base x (secOf now ((f + j : Nat) : Int))
structure ROp (w0 wr : World) (base : Nat) (q : RDiskP) (D : DiskV) (f m ga gj : Nat) (kind : Int) (nx : Nat) (B : Option Addr) (N c : Nat) (now : List UInt8) : Prop where
  hs : base ≤ w0.heap.size
  gk : q.gk < w0.heap.size
  g1 : w0.heap.size ≤ gj
  area : Blk wr ga 51 [.pointer (some ⟨q.d, 0, none⟩), .int .i64 (f : Nat), .int .i64 (m : Nat)]
  jrn : RJrnAt wr gj q f m kind nx
  disk : RDiskS wr base q D
  step : RStep base q w0 wr
  all : RAll wr base w0.heap.size B N c now f
theorem ROp.size (h : ROp w0 wr base q D f m ga gj kind nx B N c now) : w0.heap.size ≤ wr.heap.size := h.step.size
theorem ROp.rstep (h : ROp w0 wr base q D f m ga gj kind nx B N c now) (k : RStep base q wr w') (hd : RDiskS w' base q D') : ROp w0 w' base q D' f m ga gj kind nx B N c now := by
  obtain ⟨hs, ho, hk⟩ := h.all
  refine ⟨h.hs, h.gk, h.g1, h.disk.blk h.area k (by decide), h.disk.blk h.jrn k (by decide), hd, h.step.trans k, hs, ⟨ho.1, ?_⟩, fun j x hx => ⟨(hk j x hx).1, (hk j x hx).2.1, (hk j x hx).2.2.rstep h.disk k⟩⟩
  obtain ⟨F', hF', tF⟩ := k.tch
  refine own_keep ho.2 hF' (fun g hg hf => ?_)
  have hg' : B.map (·.block) = some g := by cases B with | none => simp [Value.ownBlock] at hg | some a => simpa [Value.ownBlock] using hg
  obtain ⟨cs, hbk⟩ := ho.blk hg'
  have hlt := (ho.lt g hg').1
  obtain ⟨_, _, ⟨c2, b2⟩, ⟨c3, b3⟩⟩ := h.disk.kinds
  rcases tF g _ cs hf hbk with q1 | q1 | q1 | q1 | q1
  · exact absurd q1 (by decide)
  · exact absurd q1 (by decide)
  · have := h.gk; omega
  · exact hbk.ne_ b2 (by decide) q1
  · exact hbk.ne_ b3 (by decide) q1
theorem ROp.below (h : ROp w0 wr base q D f m ga gj kind nx B N c now) (hb : Below wr.heap.size wr w') : ROp w0 w' base q D f m ga gj kind nx B N c now := by
  obtain ⟨hs, ho, hk⟩ := h.all
  exact ⟨h.hs, h.gk, h.g1, h.area.below hb h.area.lt, Blk.below h.jrn hb (Blk.lt h.jrn), h.disk.below hb, h.step.trans (RStep.of_below hb (by have := h.size; have := h.hs; omega)), hs, ho.below hb (Nat.le_refl _), fun j x hx => ⟨(hk j x hx).1, (hk j x hx).2.1, (hk j x hx).2.2.below hb⟩⟩
theorem ROp.next (h : ROp w0 wr base q D f m ga gj kind nx B N c now) : ROp w0 (wr.setCell ⟨gj, 4, none⟩ (.int .i64 ((nx : Int) + 1))) base q D f m ga gj kind (nx + 1) B N c now := by
  obtain ⟨hs, ho, hk⟩ := h.all
  have hj := h.jrn
  have hb : Below w0.heap.size wr (wr.setCell ⟨gj, 4, none⟩ (.int .i64 ((nx : Int) + 1))) := (Below.refl _ _).setCell h.g1 _
  have hgn : wr.grownBy (wr.setCell ⟨gj, 4, none⟩ (.int .i64 ((nx : Int) + 1))) (some gj) := grown_setCell _
  have kk : Keep (· = gj) wr (wr.setCell ⟨gj, 4, none⟩ (.int .i64 ((nx : Int) + 1))) := Keep.one hgn
  refine ⟨h.hs, h.gk, h.g1, h.area.far (p := ⟨gj, 4, none⟩) (h.area.ne_ h.jrn (by decide)) _, Blk.set_ h.jrn 4 _, h.disk.apart kk (fun g e => ?_), h.step.then_below hb h.hs, hs, ho.setFar hj (by decide) 4 _, fun j x hx => ⟨(hk j x hx).1, (hk j x hx).2.1, (hk j x hx).2.2.keepF kk (fun g e => ?_)⟩⟩
  · subst e
    exact ⟨by have := h.hs; have := h.g1; omega, by have := h.gk; have := h.g1; omega, _, _, hj, by decide⟩
  · subst e
    exact ⟨by have := h.hs; have := h.g1; omega, not_u8 hj (by decide)⟩
theorem ROp.app (h : ROp w0 wr base q D f m ga gj kind nx B N c now) {x : SlV} (h1 : x.n = 128) (h2 : 128 ≤ x.c) (hx : BytesAt wr base x (secOf now ((f + N : Nat) : Int))) : ∃ hs : List SlV, Ow slV wr w0.heap.size 22 B N c hs ∧
    ∀ A' c' w', Ow slV w' w0.heap.size 22 A' (N + 1) c' (hs ++ [x]) → wr.grownBy w' (B.map (·.block)) → Below w0.heap.size wr w' → ROp w0 w' base q D f m ga gj kind nx A' (N + 1) c' now := by
  obtain ⟨hs, ho, hk⟩ := h.all
  have hN := ho.1
  refine ⟨hs, ho, fun A' c' w' ho' hg hb => ?_⟩
  have hob := ho.rebase (base' := base) h.hs
  have kk : Keep (fun g => B.map (·.block) = some g) wr w' := Keep.of_grown hg (fun g e => e)
  refine ⟨h.hs, h.gk, h.g1, h.area.grown hg (ho.ne_ h.area (by decide)), Blk.grown h.jrn hg (ho.ne_ h.jrn (by decide)), h.disk.apart kk (fun g e => ?_), h.step.then_below hb h.hs, _, ho', fun j y hy => ?_⟩
  · obtain ⟨cs, hbk⟩ := ho.blk e
    have hlt := (ho.lt g e).1
    exact ⟨by have := h.hs; omega, by have := h.gk; omega, _, _, hbk, by decide⟩
  · rcases Nat.lt_or_ge j N with q1 | q1
    · rw [List.getElem?_append_left (by omega)] at hy
      exact ⟨(hk j y hy).1, (hk j y hy).2.1, (hk j y hy).2.2.grown hob (by decide) hg⟩
    · have e9 : j = N := by
        have := (List.getElem?_eq_some_iff.1 hy).1
        rw [List.length_append, List.length_singleton] at this
        omega
      subst e9
      rw [List.getElem?_append_right (by omega), hN, Nat.sub_self] at hy
      simp only [List.getElem?_cons_zero, Option.some.injEq] at hy
      subst hy
      exact ⟨h1, h2, hx.grown hob (by decide) hg⟩
/-- One of what has been read. -/
theorem ROp.at_ (h : ROp w0 wr base q D f m ga gj kind nx B N c now) {j : Nat} (hj : j < N) : ∃ b o g o2 c2, B = some ⟨b, o, none⟩ ∧ b < wr.heap.size ∧ wr.cell? ⟨b, o + j, none⟩ = some (.slice (some ⟨g, o2, none⟩) 128 c2) ∧ 128 ≤ c2 ∧ RB wr (some ⟨g, o2, none⟩) 128 (secOf now ((f + j : Nat) : Int)) := by
  obtain ⟨hs, ho, hk⟩ := h.all
  have hN := ho.1
  obtain ⟨b, o, hB, hbl, hc⟩ := ho.rd.2.at_ hj
  have hjl : j < hs.length := by omega
  obtain ⟨h1, h2, h3⟩ := hk j hs[j] (List.getElem?_eq_getElem hjl)
  have hc2 : wr.cell? ⟨b, o + j, none⟩ = some (slV hs[j]) := by
    rw [hc]; simp [hjl]
  generalize hs[j] = x at *
  obtain ⟨xa, xn, xc⟩ := x
  simp only at h1 h2
  subst h1
  obtain ⟨g, o2, e, _, _⟩ := h3.1.2 (by show 0 < 128; omega)
  simp only at e
  subst e
  exact ⟨b, o, g, o2, xc, hB, hbl, hc2, h2, h3.1⟩
/-- What the document's Open leaves. -/
def ROpPost (w : World) (base : Nat) (q : RDiskP) (f m : Nat) (kind : Int) (R : DiskV × Nat × Int) (e : Ending) (w' : World) : Prop :=
  ∃ P, e = .returned (.tuple #[.pointer P, .int .i64 R.2.2]) ∧ (R.2.2 ≠ 0 → P = none) ∧ (R.2.2 = 0 → ∃ gj, P = some ⟨gj, 0, none⟩ ∧ w.heap.size ≤ gj ∧ RJrnAt w' gj q f m kind R.2.1) ∧ RDiskS w' base q R.1 ∧ RStep base q w w'
theorem ROpPost.no {z : Int} (hz : z ≠ 0) (hd : RDiskS w' base q D) (hs : RStep base q w w') : ROpPost w base q f m kind (D, 0, z) (.returned (.tuple #[.pointer none, .int .i64 z])) w' :=
  ⟨none, rfl, fun _ => rfl, fun e => absurd e hz, hd, hs⟩
theorem ROp.yes' (h : ROp w w' base q D f m ga gj kind nx B N c now) : ROpPost w base q f m kind (D, nx, 0) (.returned (.tuple #[.pointer (some ⟨gj, 0, none⟩), .int .i64 0])) w' :=
  ⟨_, rfl, fun e => absurd rfl e, fun _ => ⟨gj, rfl, h.g1, h.jrn⟩, h.disk, h.step⟩
theorem ROp.start (hd : RDiskS w base q D) (hs : base ≤ w.heap.size) (f m : Nat) (kind : Int) : ROp w ((w.alloc (.cells #[.pointer (some ⟨q.d, 0, none⟩), .int .i64 (f : Nat), .int .i64 (m : Nat)] 51)).alloc (.cells #[.pointer (some ⟨q.d, 0, none⟩), .int .i64 (f : Nat), .int .i64 (m : Nat), .int .i64 kind, .int .i64 0] 53)) base q D f m w.heap.size (w.heap.size + 1) kind 0 none 0 0 D.now := by
  have bA : Below w.heap.size w ((w.alloc (.cells #[.pointer (some ⟨q.d, 0, none⟩), .int .i64 (f : Nat), .int .i64 (m : Nat)] 51)).alloc (.cells #[.pointer (some ⟨q.d, 0, none⟩), .int .i64 (f : Nat), .int .i64 (m : Nat), .int .i64 kind, .int .i64 0] 53)) := (by (repeat' (first | (with_reducible exact Below.refl _ _) | (with_reducible assumption) | (with_reducible refine Below.drew ?_) | (with_reducible refine below_drewN ?_ _) | (with_reducible refine Below.alloc ?_ ?_ _) | (with_reducible refine Below.setCell ?_ ?_ _) | omega | (simp; done) | (simp; omega))))
  have hgk : q.gk < w.heap.size := by obtain ⟨_, ⟨cs, hb⟩, _⟩ := hd.kinds; exact hb.lt
  exact ⟨hs, hgk, by omega, Blk.alloc (Blk.top _ rfl rfl) _, Blk.top _ (by simp) rfl, hd.below bA, RStep.of_below bA hs, [], Ow.nil _ _ _ _, fun j x hx => by simp at hx⟩
theorem ropen_kind (hd : RDiskS w base q D) (hs : base ≤ w.heap.size) (h : kind < 1 ∨ 255 < kind) : Calls Tryz.prog 113 #[.agg #[.pointer (some ⟨q.d, 0, none⟩), .int .i64 (f : Nat), .int .i64 (m : Nat)], .int .i64 kind] w (ROpPost w base q f m kind (D, 0, 2)) := by
  have bA : Below w.heap.size w (w.alloc (.cells #[.pointer (some ⟨q.d, 0, none⟩), .int .i64 (f : Nat), .int .i64 (m : Nat)] 51)) := (Below.refl _ _).alloc (Nat.le_refl _) _
  have H := Lib.hid (hd.below bA)
  have K := Lib.hid (RStep.of_below (q := q) bA hs)
  have hc : kind < 1 ∨ (1 ≤ kind ∧ 255 < kind) := by omega
  clear h hd bA
  rcases hc with h1 | ⟨h1, h2⟩
  all_goals
    go_enter Tryz.func113, Tryz.ntmps113
    go_wp2
    go_ret2
    exact ROpPost.no (by simp) H.out K.out
set_option maxRecDepth 100000 in
set_option maxHeartbeats 4000000 in
theorem ropen_off (hd : RDiskS w base q D) (hs : base ≤ w.heap.size) (h1 : 1 ≤ kind) (h2 : kind ≤ 255) (hm : 1 ≤ m) (hfm : f + m ≤ D.many) (hoff : D.off = true) : Calls Tryz.prog 113 #[.agg #[.pointer (some ⟨q.d, 0, none⟩), .int .i64 (f : Nat), .int .i64 (m : Nat)], .int .i64 kind] w (ROpPost w base q f m kind (D, 0, 50)) := by
  have HS := Lib.hid (ROp.start hd hs f m kind)
  have hon : aReadV D f m 0 = (D, zerosL, 50) := by
    have hmay : mayV D ((f : Int) + 0) = 50 := by unfold mayV; rw [hoff]; rfl
    unfold aReadV readV
    rw [if_neg (by omega), hmay, if_pos (by simp)]
  have HON := Lib.hid hon
  have hmI : (0 : Int) < m := by omega
  clear hd hoff hon
  go_enter Tryz.func113, Tryz.ntmps113
  go_wp2_with fail
  go_loopw [7, 8] (fun _ i wr => i = .int .i64 0 ∧ ROp w wr base q D f m w.heap.size (w.heap.size + 1) kind 0 none 0 0 D.now) (fun _ i _ => m - (intOf i).toNat)
  case atStart => exact ⟨rfl, HS.out⟩
  case round =>
    obtain ⟨rfl, hO⟩ := hrel
    have hsz := hO.size
    have y0 : wr.cell? ⟨w.heap.size, 0, none⟩ = some (.pointer (some ⟨q.d, 0, none⟩)) := hO.area.cell 0
    have y1 : wr.cell? ⟨w.heap.size, 1, none⟩ = some (.int .i64 (f : Nat)) := hO.area.cell 1
    have y2 : wr.cell? ⟨w.heap.size, 2, none⟩ = some (.int .i64 (m : Nat)) := hO.area.cell 2
    have crd := ra_read hO.disk (by omega) hfm 0
    rw [HON.out] at crd
    have crd2 := crd.mono (fun e w' (hp : RRead _ base q (D, zerosL, 50) e w') => (show e = .returned (.tuple #[.slice none 0 0, .int .i64 50]) ∧ RDiskS w' base q D ∧ RStep base q _ w' from by
      obtain ⟨B, k, c, e1, e2, _, e4, e5⟩ := hp
      obtain ⟨rfl, rfl, rfl⟩ := e2 (by simp)
      exact ⟨e1, e4, e5⟩))
    have HO := Lib.hid hO
    clear crd hO
    go_wp2_with (first
      | (go_at_call 161; (with_reducible refine (crd2).mono ?_); rintro e w2 ⟨rfl, r2, k2⟩)
      | fail "no arm")
    go_ret2
    exact ROpPost.no (by simp) r2 (HO.out.step.trans k2)
/-- How many records the journal in memory says it has. -/
def nxOf (w : World) (g : Nat) : Nat := match w.cell? ⟨g, 4, none⟩ with | some (.int _ k) => k.toNat | _ => 0
theorem ROp.nxIs (h : ROp w0 wr base q D f m ga gj kind nx B N c now) : nxOf wr gj = nx := by
  have : wr.cell? ⟨gj, 4, none⟩ = some (.int .i64 (nx : Int)) := Blk.cell h.jrn 4
  unfold nxOf
  rw [this]
  simp
theorem read_one (hO : ROp w0 wr base q (rdK D N) f m ga gj kind nx B N c now) (hoff : D.off = false) (hfm : f + m ≤ D.many) (hN : N < m) (hok : D.now.length = D.many * 128) : Calls Tryz.prog 161 #[.agg #[.pointer (some ⟨q.d, 0, none⟩), .int .i64 (f : Nat), .int .i64 (m : Nat)], .int .i64 (N : Int)] wr fun e w' =>
    ∃ g o c2, e = .returned (.tuple #[.slice (some ⟨g, o, none⟩) 128 c2, .int .i64 0]) ∧ 128 ≤ c2 ∧ BytesAt w' base ⟨some ⟨g, o, none⟩, 128, c2⟩ (secOf D.now ((f + N : Nat) : Int)) ∧ ROp w0 w' base q (rdK D (N + 1)) f m ga gj kind nx B N c now := by
  obtain ⟨o, eo⟩ := rdK_ops D N
  have hon : aReadV (rdK D N) f m (N : Int) = (rdK D (N + 1), secOf D.now ((f + N : Nat) : Int), 0) := by
    rw [onRead (by rw [eo]; exact hoff) (by rw [eo]; exact hfm) hN]
    show (rdK D (N + 1), secOf (rdK D N).now _, (0 : Int)) = _
    rw [eo]
  have crd := ra_read hO.disk (by have := hO.hs; have := hO.size; omega) (f := f) (m := m) (by rw [eo]; exact hfm) (N : Int)
  rw [hon] at crd
  refine crd.mono fun e w' hp => ?_
  obtain ⟨B', k, c', e1, _, e3, e4, e5⟩ := hp
  obtain ⟨rfl, q2, q3, q4⟩ := e3 rfl
  obtain ⟨b9, o9, e9, _⟩ := q4.1.2 (by show 0 < 128; omega)
  simp only at e9
  subst e9
  exact ⟨b9, o9, c', e1, q2, q4, hO.rstep e5 e4⟩
theorem refopen_yes {l : List UInt8} (h : opens l kind = true) (g o c : Nat) (w : World) (hl : RB w (some ⟨g, o, none⟩) 128 l) (hc : 128 ≤ c) :
    Calls Tryz.prog 159 #[.slice (some ⟨g, o, none⟩) 128 c, .int .i64 kind] w fun e w' => ∃ A k ca, e = .returned (.tuple #[.int .i64 (sg (openNum l)), .slice A k ca, .int .i64 0]) ∧ Below w.heap.size w w' := by
  have := refopen_any g o c l kind w hl hc
  rw [h] at this
  exact this.mono fun e w' hp => by
    rcases hp with ⟨e1, _⟩ | ⟨_, A, ca, e1, _, e3⟩
    · cases e1
    · exact ⟨A, _, ca, e1, e3⟩
theorem refopen_no {l : List UInt8} (h : opens l kind = false) (g o c : Nat) (w : World) (hl : RB w (some ⟨g, o, none⟩) 128 l) (hc : 128 ≤ c) :
    Calls Tryz.prog 159 #[.slice (some ⟨g, o, none⟩) 128 c, .int .i64 kind] w fun e w' => e = .returned (.tuple #[.int .i64 0, .slice none 0 0, .int .i64 53]) ∧ Below w.heap.size w w' := by
  have := refopen_any g o c l kind w hl hc
  rw [h] at this
  exact this.mono fun e w' hp => by
    rcases hp with ⟨_, e1, e2⟩ | ⟨e1, _⟩
    · exact ⟨e1, e2⟩
    · cases e1
set_option maxRecDepth 100000 in
set_option maxHeartbeats 30000000 in
theorem ropen_on (hd : RDiskS w base q D) (hs : base ≤ w.heap.size) (h1 : 1 ≤ kind) (h2 : kind ≤ 255) (hfm : f + m ≤ D.many) (hoff : D.off = false) (hwt : D.waits.length < 900000) : Calls Tryz.prog 113 #[.agg #[.pointer (some ⟨q.d, 0, none⟩), .int .i64 (f : Nat), .int .i64 (m : Nat)], .int .i64 kind] w (ROpPost w base q f m kind (jOpenV D f m kind)) := by
  have hok : D.Ok := by obtain ⟨A, c, ck, ci, hr⟩ := hd; exact hr.ok
  have hm4 : f + m ≤ 4096 := by have := hok.many1; omega
  have HSL := Lib.hid hok.now
  have HS := Lib.hid (ROp.start hd hs f m kind)
  have hun : jOpenV D f m kind = if (jWipe D f m kind).2 ≠ 0 then ((jWipe D f m kind).1, 0, (jWipe D f m kind).2)
      else if (scanK D.now f kind m).2.2 = [] then ((jWipe D f m kind).1, (scanK D.now f kind m).2.1, 0)
      else if (flushV (jWipe D f m kind).1).2 ≠ 0 then ((flushV (jWipe D f m kind).1).1, 0, (flushV (jWipe D f m kind).1).2)
      else ((flushV (jWipe D f m kind).1).1, (scanK D.now f kind m).2.1, 0) := by
    unfold jOpenV
    rw [if_neg (by omega), if_neg (by rw [hoff]; simp)]
  unfold jWipe at hun
  obtain ⟨o, eo⟩ := rdK_ops D m
  have HR : Hid ((rdK D m).many = D.many ∧ (rdK D m).waits.length = D.waits.length) := by show _ ∧ _; rw [eo]; exact ⟨rfl, rfl⟩
  generalize jOpenV D f m kind = R at *
  have HUN := Lib.hid hun
  have HSC := Lib.hid (fun N h => scanK_front (now := D.now) (f := f) (kind := kind) N h)
  clear hd hok eo hun
  have hmk : ∀ W : World, (Instr.makeSlice 22 (.int .i64 128) (.int .i64 128)).run Tryz.prog W = .ok (.slice (some ⟨W.heap.size, 0, none⟩) 128 128) (W.alloc (.cells (madeCells (Value.int .u8 0).cells 128) 5)) := run_make_one elemB 128 (by omega) (by omega)
  have hmc : (madeCells (Value.int .u8 0).cells 128) = (zerosL.map bv).toArray := by kernel_rfl
  rw [hmc] at hmk
  clear hmc
  have rbz : ∀ {W : World} {g : Nat}, Blk W g 5 (zerosL.map bv) → RB W (some ⟨g, 0, none⟩) 128 zerosL := fun {W g} hb => (by have := RB.of_block (l := zerosL) hb rfl; rw [zerosL_len] at this; exact this)
  have RBZ := Lib.hid (fun (W : World) (g : Nat) (hb : Blk W g 5 (zerosL.map bv)) => rbz hb)
  clear rbz
  generalize zerosL.map bv = Z at *
  go_enter Tryz.func113, Tryz.ntmps113
  go_wp2_with fail
  go_loopw [7, 8] (fun a i wr => ∃ (k : Nat) (B : Option Addr) (c : Nat), k ≤ m ∧ i = .int .i64 (k : Nat) ∧ a = .slice B k c ∧ ROp w wr base q (rdK D k) f m w.heap.size (w.heap.size + 1) kind 0 B k c D.now) (fun _ i _ => m - (intOf i).toNat)
  case atStart => exact ⟨0, none, 0, by omega, rfl, rfl, HS.out⟩
  case round =>
    obtain ⟨k, B, c, hk, rfl, rfl, hO⟩ := hrel
    have hsz := hO.size
    have y0 : wr.cell? ⟨w.heap.size, 0, none⟩ = some (.pointer (some ⟨q.d, 0, none⟩)) := hO.area.cell 0
    have y1 : wr.cell? ⟨w.heap.size, 1, none⟩ = some (.int .i64 (f : Nat)) := hO.area.cell 1
    have y2 : wr.cell? ⟨w.heap.size, 2, none⟩ = some (.int .i64 (m : Nat)) := hO.area.cell 2
    by_cases hlt : k < m
    · have hrd := read_one hO hoff hfm hlt HSL.out
      have hkI : (k : Int) < m := by omega
      clear hO
      go_wp2_with (first
        | ((go_at_call 161; (with_reducible refine (hrd).mono ?_); rintro e w2 ⟨g, o2, c2, rfl, hc2, hb2, p2⟩); have O2 := Lib.hid p2; have s2 := p2.size; clear p2)
        | (at_builtin; have bA : Below w2.heap.size w2 (w2.alloc (.cells #[.slice (some ⟨g, o2, none⟩) 128 c2] 22)) := (Below.refl _ _).alloc (Nat.le_refl _) _; obtain ⟨hs6, ho6, happ6⟩ := (O2.out.below bA).app (x := ⟨some ⟨g, o2, none⟩, 128, c2⟩) rfl hc2 (hb2.below bA); refine wpList_app rfl rfl elemHdr slV_one (s := .tmp 43) (N := k + 1) (L := hs6 ++ [⟨some ⟨g, o2, none⟩, 128, c2⟩]) rfl ho6 rfl (k := [⟨some ⟨g, o2, none⟩, 128, c2⟩]) (hdr_rd w2 ⟨some ⟨g, o2, none⟩, 128, c2⟩) rfl rfl (by unfold maxLen; omega) (by omega) (by first | omega | (simp; done) | (simp; omega)) ?_; intro A6 c6 w6 hown6 hg6 hat6 hb6; have O6 := Lib.hid (happ6 A6 c6 w6 hown6 hg6 hb6))
        | fail "no arm")
      go_roundw
      case rel => first
        | exact ⟨k + 1, A6, c6, by omega, by go_num, rfl, O6.out⟩
        | ((repeat apply Exists.intro); exact ⟨⟨k + 1, A6, c6, by omega, by go_num, rfl, O6.out⟩, rfl⟩)
      case measure => simp [intOf]; omega
    · have hk9 : m = k := by omega
      subst hk9
      have HO := Lib.hid hO
      clear hO hk
      go_wp2_with fail
      go_loopw [11] (fun _ wr => ∃ nx : Nat, nx ≤ m ∧ Hid (∀ j, j < nx → recB (secOf D.now ((f + j : Nat) : Int)) kind j = true) ∧ ROp w wr base q (rdK D m) f m w.heap.size (w.heap.size + 1) kind nx B m c D.now) (fun _ wr => m - nxOf wr (w.heap.size + 1))
      case atStart => exact ⟨0, by omega, Lib.hid (fun j hj => absurd hj (by omega)), HO.out⟩
      case round =>
        obtain ⟨nx, hnx, hrc, hO⟩ := hrel
        have hsz := hO.size
        have y0 : wr.cell? ⟨w.heap.size, 0, none⟩ = some (.pointer (some ⟨q.d, 0, none⟩)) := hO.area.cell 0
        have y1 : wr.cell? ⟨w.heap.size, 1, none⟩ = some (.int .i64 (f : Nat)) := hO.area.cell 1
        have y2 : wr.cell? ⟨w.heap.size, 2, none⟩ = some (.int .i64 (m : Nat)) := hO.area.cell 2
        have y4 : wr.cell? ⟨w.heap.size + 1, 4, none⟩ = some (.int .i64 (nx : Nat)) := Blk.cell hO.jrn 4
        have y4f := Blk.frozen hO.jrn 4
        have y4l := Blk.lt hO.jrn
        by_cases hlt : nx < m
        · obtain ⟨b, o1, g, o2, c2, rfl, hbl, hcell, hc2, hrb⟩ := hO.at_ hlt
          have hltI : (nx : Int) < m := by omega
          cases ho : opens (secOf D.now ((f + nx : Nat) : Int)) kind with
          | false =>
            have hop := refopen_no ho g o2 c2
            have hsc := scanK_back (HSC.out nx hrc.out) (by unfold recB; rw [ho]; rfl)
            have HSK := Lib.hid (fun j (_ : nx + j ≤ m) => (hsc j).1)
            have HO := Lib.hid hO
            have HRB := Lib.hid hrb
            clear hO hsc ho hrb
            go_wp2_with fail
            go_quiet (fail)
            go_wp2_with (first
              | ((go_at_call 159; (with_reducible refine (hop _ (HRB.out.below (B := wr.heap.size) (by (repeat' (first | (with_reducible exact Below.refl _ _) | (with_reducible assumption) | (with_reducible refine Below.drew ?_) | (with_reducible refine below_drewN ?_ _) | (with_reducible refine Below.alloc ?_ ?_ _) | (with_reducible refine Below.setCell ?_ ?_ _) | omega | (simp; done) | (simp; omega)))) (Nat.le_refl _)) hc2).mono ?_); rintro e w5 ⟨rfl, hb5⟩); have b5 : Below wr.heap.size wr w5 := below_then' (by (repeat' (first | (with_reducible exact Below.refl _ _) | (with_reducible assumption) | (with_reducible refine Below.drew ?_) | (with_reducible refine below_drewN ?_ _) | (with_reducible refine Below.alloc ?_ ?_ _) | (with_reducible refine Below.setCell ?_ ?_ _) | omega | (simp; done) | (simp; omega)))) hb5 (by first | omega | (simp; done) | (simp; omega)); have O5 := Lib.hid (HO.out.below b5); have z4 : w5.cell? ⟨w.heap.size + 1, 4, none⟩ = some (.int .i64 (nx : Nat)) := Blk.cell O5.out.jrn 4)
              | fail "no arm")
            go_wp2_with fail
            go_loopw [14, 15] (fun v i wr => ∃ (n t u : Nat) (Dj : DiskV), Hid (n = nx + t) ∧ n ≤ m ∧ t ≤ n ∧ i = .int .i64 (n : Nat) ∧ v = .int .i64 (u : Int) ∧ Hid (u = (fromK D.now f nx t).length) ∧ u ≤ t ∧ Hid (wipeK (rdK D m) f m (fromK D.now f nx t) = (Dj, 0)) ∧ Dj.many = D.many ∧ Dj.waits.length ≤ D.waits.length + t ∧ ROp w wr base q Dj f m w.heap.size (w.heap.size + 1) kind nx (some ⟨b, o1, none⟩) m c D.now) (fun _ i _ => m - (intOf i).toNat)
            case atStart => exact ⟨nx, 0, 0, rdK D m, Lib.hid rfl, by omega, by omega, rfl, rfl, Lib.hid rfl, by omega, Lib.hid rfl, HR.out.1, by have := HR.out.2; omega, O5.out⟩
            case round =>
              obtain ⟨n, t, u, Dj, hn, ht, htn, rfl, rfl, hu, hut, hwk, hmj, hwj, hO⟩ := hrel
              have hsz := hO.size
              have y0 : wr.cell? ⟨w.heap.size, 0, none⟩ = some (.pointer (some ⟨q.d, 0, none⟩)) := hO.area.cell 0
              have y1 : wr.cell? ⟨w.heap.size, 1, none⟩ = some (.int .i64 (f : Nat)) := hO.area.cell 1
              have y2 : wr.cell? ⟨w.heap.size, 2, none⟩ = some (.int .i64 (m : Nat)) := hO.area.cell 2
              have HF := Lib.hid (show fromK D.now f nx (t + 1) = if secOf D.now ((f + n : Nat) : Int) = zerosL then fromK D.now f nx t else fromK D.now f nx t ++ [(n : Int)] from by rw [hn.out]; rfl)
              by_cases hlt : n < m
              · obtain ⟨b3, o3, g3, o4, c4, hB3, hbl, hcell, hc4, hrb⟩ := hO.at_ hlt
                have c1 := fun (b : Bool) (hb : decide (secOf D.now ((f + n : Nat) : Int) = zerosL) = b) (W : World) (gz : Nat) (h1 : RB W (some ⟨g3, o4, none⟩) 128 (secOf D.now ((f + n : Nat) : Int))) (h2 : RB W (some ⟨gz, 0, none⟩) 128 zerosL) => (same_any (some ⟨g3, o4, none⟩) (some ⟨gz, 0, none⟩) 128 128 c4 128 _ _ W h1 h2 (by unfold maxLen; omega)).mono (fun e w' hp => (show e = .returned (.bool b) ∧ Below W.heap.size W w' from by
                  obtain ⟨e1, q9, e2⟩ := hp
                  subst e2
                  exact ⟨by rw [e1, hb], below_drewN (Below.refl _ _) q9⟩))
                have hltI : (n : Int) < m := by omega
                have HO := Lib.hid hO
                have cw := fun {W : World} (h : ROp w W base q Dj f m w.heap.size (w.heap.size + 1) kind nx (some ⟨b, o1, none⟩) m c D.now) (g9 : Nat) (h9 : RB W (some ⟨g9, 0, none⟩) 128 zerosL) => ra_write h.disk (by have := h.hs; have := h.size; omega) (f := f) (m := m) (by rw [hmj]; exact hfm) (n : Int) (some ⟨g9, 0, none⟩) 128 zerosL zerosL_len h9 (by omega)
                have hmw := aWriteV_many Dj f m (n : Int) zerosL
                have HMW := Lib.hid hmw
                have hfail := fun hf hz j => wipe_fail (n := (n : Int)) hwk.out hf hz j
                have hmore := fun hf => wipe_more (n := (n : Int)) hwk.out hf
                have HFAIL := Lib.hid hfail
                have HMORE := Lib.hid hmore
                clear hO hmw hfail hmore
                have HB3 := Lib.hid hB3
                cases hB3
                generalize hS : secOf D.now ((f + n : Nat) : Int) = S at *
                have HRB := Lib.hid hrb
                clear hrb hS
                have hnt4 : n ≤ 4096 := by omega
                by_cases hz : S = zerosL
                · have c2 := c1 true (decide_eq_true hz)
                  have HZ2 := Lib.hid hz
                  clear c1 hz
                  go_wp2_with fail
                  go_region_held3 (fun w' => w'.cell? ⟨b, o1 + n, none⟩ = some (.slice (some ⟨g3, o4, none⟩) 128 c4)) (first | go_keep | assumption) (first
                    | ((go_at_call 16; (with_reducible refine (c2 _ wr.heap.size (HRB.out.below (B := wr.heap.size) (by (repeat' (first | (with_reducible exact Below.refl _ _) | (with_reducible assumption) | (with_reducible refine Below.drew ?_) | (with_reducible refine below_drewN ?_ _) | (with_reducible refine Below.alloc ?_ ?_ _) | (with_reducible refine Below.setCell ?_ ?_ _) | omega | (simp; done) | (simp; omega)))) (Nat.le_refl _)) (RBZ.out _ _ (by (repeat' (first | (with_reducible assumption) | (with_reducible refine Blk.top _ (by first | rfl | omega | (simp; done) | (simp; omega)) rfl) | (with_reducible refine Blk.alloc ?_ _) | (with_reducible refine Blk.drew ?_) | (with_reducible refine Blk.drewN ?_ _) | (with_reducible refine Blk.far ?_ (by first | omega | (simp; done) | (simp; omega)) _)))))).mono ?_); rintro e w3 ⟨rfl, hb3⟩); have b3q : Below wr.heap.size wr w3 := below_then' (by (repeat' (first | (with_reducible exact Below.refl _ _) | (with_reducible assumption) | (with_reducible refine Below.drew ?_) | (with_reducible refine below_drewN ?_ _) | (with_reducible refine Below.alloc ?_ ?_ _) | (with_reducible refine Below.setCell ?_ ?_ _) | omega | (simp; done) | (simp; omega)))) hb3 (by first | omega | (simp; done) | (simp; omega)); have y3 : w3.cell? ⟨b, o1 + n, none⟩ = some (.slice (some ⟨g3, o4, none⟩) 128 c4) := (b3q.cell (p := ⟨b, o1 + n, none⟩) hbl).trans hcell; have O3 := Lib.hid (HO.out.below b3q))
                    | fail "no arm")
                  go_wp2
                  go_roundw
                  case rel =>
                    have e9 : fromK D.now f nx (t + 1) = fromK D.now f nx t := by rw [HF.out, if_pos HZ2.out]
                    have k1 : Hid (u = (fromK D.now f nx (t + 1)).length) := by rw [e9]; exact hu
                    have k2 : Hid (wipeK (rdK D m) f m (fromK D.now f nx (t + 1)) = (Dj, 0)) := by rw [e9]; exact hwk
                    first
                      | exact ⟨n + 1, t + 1, u, Dj, Lib.hid (by rw [hn.out, Nat.add_assoc]), by omega, by omega, by go_num, rfl, k1, by omega, k2, hmj, by omega, O3.out⟩
                      | ((repeat apply Exists.intro); exact ⟨⟨n + 1, t + 1, u, Dj, Lib.hid (by rw [hn.out, Nat.add_assoc]), by omega, by omega, by go_num, rfl, k1, by omega, k2, hmj, by omega, O3.out⟩, rfl⟩)
                  case measure => simp [intOf]; omega
                · have c2 := c1 false (decide_eq_false hz)
                  have HFZ := Lib.hid (show fromK D.now f nx (t + 1) = fromK D.now f nx t ++ [(n : Int)] from by rw [HF.out, if_neg hz])
                  have hm9 := HMORE.out HFZ.out
                  have hf9 := HFAIL.out HFZ.out
                  clear c1 hz
                  generalize aWriteV Dj f m (n : Int) zerosL = P at *
                  obtain ⟨Dn, z⟩ := P
                  simp only at cw hf9
                  have HM9 := Lib.hid hm9
                  have HF9 := Lib.hid hf9
                  clear hm9 hf9
                  go_wp2_with fail
                  go_region_held3 (fun w' => w'.cell? ⟨b, o1 + n, none⟩ = some (.slice (some ⟨g3, o4, none⟩) 128 c4)) (first | go_keep | assumption) (first
                    | ((go_at_call 16; (with_reducible refine (c2 _ wr.heap.size (HRB.out.below (B := wr.heap.size) (by (repeat' (first | (with_reducible exact Below.refl _ _) | (with_reducible assumption) | (with_reducible refine Below.drew ?_) | (with_reducible refine below_drewN ?_ _) | (with_reducible refine Below.alloc ?_ ?_ _) | (with_reducible refine Below.setCell ?_ ?_ _) | omega | (simp; done) | (simp; omega)))) (Nat.le_refl _)) (RBZ.out _ _ (by (repeat' (first | (with_reducible assumption) | (with_reducible refine Blk.top _ (by first | rfl | omega | (simp; done) | (simp; omega)) rfl) | (with_reducible refine Blk.alloc ?_ _) | (with_reducible refine Blk.drew ?_) | (with_reducible refine Blk.drewN ?_ _) | (with_reducible refine Blk.far ?_ (by first | omega | (simp; done) | (simp; omega)) _)))))).mono ?_); rintro e w3 ⟨rfl, hb3⟩); have b3q : Below wr.heap.size wr w3 := below_then' (by (repeat' (first | (with_reducible exact Below.refl _ _) | (with_reducible assumption) | (with_reducible refine Below.drew ?_) | (with_reducible refine below_drewN ?_ _) | (with_reducible refine Below.alloc ?_ ?_ _) | (with_reducible refine Below.setCell ?_ ?_ _) | omega | (simp; done) | (simp; omega)))) hb3 (by first | omega | (simp; done) | (simp; omega)); have y3 : w3.cell? ⟨b, o1 + n, none⟩ = some (.slice (some ⟨g3, o4, none⟩) 128 c4) := (b3q.cell (p := ⟨b, o1 + n, none⟩) hbl).trans hcell; have O3 := Lib.hid (HO.out.below b3q); have a0 : w3.cell? ⟨w.heap.size, 0, none⟩ = some (.pointer (some ⟨q.d, 0, none⟩)) := O3.out.area.cell 0; have a1 : w3.cell? ⟨w.heap.size, 1, none⟩ = some (.int .i64 (f : Nat)) := O3.out.area.cell 1; have a2 : w3.cell? ⟨w.heap.size, 2, none⟩ = some (.int .i64 (m : Nat)) := O3.out.area.cell 2)
                    | fail "no arm")
                  go_wp2_with fail
                  by_cases hz : z = 0
                  · subst hz
                    go_region_held3 (fun w' => w'.cell? ⟨w.heap.size, 0, none⟩ = some (.pointer (some ⟨q.d, 0, none⟩)) ∧ w'.cell? ⟨w.heap.size, 1, none⟩ = some (.int .i64 (f : Nat)) ∧ w'.cell? ⟨w.heap.size, 2, none⟩ = some (.int .i64 (m : Nat))) (first | go_keep | (refine ⟨?_, ?_, ?_⟩ <;> assumption)) (first
                      | ((go_at_call 143; (with_reducible refine (cw (O3.out.below (by (repeat' (first | (with_reducible exact Below.refl _ _) | (with_reducible assumption) | (with_reducible refine Below.drew ?_) | (with_reducible refine below_drewN ?_ _) | (with_reducible refine Below.alloc ?_ ?_ _) | (with_reducible refine Below.setCell ?_ ?_ _) | omega | (simp; done) | (simp; omega))))) w3.heap.size (RBZ.out _ _ (by (repeat' (first | (with_reducible assumption) | (with_reducible refine Blk.top _ (by first | rfl | omega | (simp; done) | (simp; omega)) rfl) | (with_reducible refine Blk.alloc ?_ _) | (with_reducible refine Blk.drew ?_) | (with_reducible refine Blk.drewN ?_ _) | (with_reducible refine Blk.far ?_ (by first | omega | (simp; done) | (simp; omega)) _)))))).mono ?_); rintro e w4 ⟨rfl, r4, k4⟩); have O4 := Lib.hid ((O3.out.below (w' := (w3.alloc (.cells Z.toArray 5)).drew) (by (repeat' (first | (with_reducible exact Below.refl _ _) | (with_reducible assumption) | (with_reducible refine Below.drew ?_) | (with_reducible refine below_drewN ?_ _) | (with_reducible refine Below.alloc ?_ ?_ _) | (with_reducible refine Below.setCell ?_ ?_ _) | omega | (simp; done) | (simp; omega))))).rstep k4 r4); have u0 : w4.cell? ⟨w.heap.size, 0, none⟩ = some (.pointer (some ⟨q.d, 0, none⟩)) := O4.out.area.cell 0; have u1 : w4.cell? ⟨w.heap.size, 1, none⟩ = some (.int .i64 (f : Nat)) := O4.out.area.cell 1; have u2 : w4.cell? ⟨w.heap.size, 2, none⟩ = some (.int .i64 (m : Nat)) := O4.out.area.cell 2)
                      | fail "no arm")
                    go_wp2
                    go_roundw
                    case rel =>
                      have k1 : Hid (u + 1 = (fromK D.now f nx (t + 1)).length) := by show _ = _; rw [HFZ.out, List.length_append, List.length_singleton, hu.out]
                      have m1 := HMW.out
                      first
                        | exact ⟨n + 1, t + 1, u + 1, Dn, Lib.hid (by rw [hn.out, Nat.add_assoc]), by omega, by omega, by go_num, by go_num, k1, by omega, HM9, by omega, by omega, O4.out⟩
                        | ((repeat apply Exists.intro); exact ⟨⟨n + 1, t + 1, u + 1, Dn, Lib.hid (by rw [hn.out, Nat.add_assoc]), by omega, by omega, by go_num, by go_num, k1, by omega, HM9, by omega, by omega, O4.out⟩, rfl⟩)
                    case measure => simp [intOf]; omega
                  · have hne : (z != 0) = true := by rw [bne_iff_ne]; exact hz
                    have HZN := Lib.hid hz
                    clear hz
                    go_region_held3 (fun w' => w'.cell? ⟨w.heap.size, 0, none⟩ = some (.pointer (some ⟨q.d, 0, none⟩)) ∧ w'.cell? ⟨w.heap.size, 1, none⟩ = some (.int .i64 (f : Nat)) ∧ w'.cell? ⟨w.heap.size, 2, none⟩ = some (.int .i64 (m : Nat))) (first | go_keep | (refine ⟨?_, ?_, ?_⟩ <;> assumption)) (first
                      | ((go_at_call 143; (with_reducible refine (cw (O3.out.below (by (repeat' (first | (with_reducible exact Below.refl _ _) | (with_reducible assumption) | (with_reducible refine Below.drew ?_) | (with_reducible refine below_drewN ?_ _) | (with_reducible refine Below.alloc ?_ ?_ _) | (with_reducible refine Below.setCell ?_ ?_ _) | omega | (simp; done) | (simp; omega))))) w3.heap.size (RBZ.out _ _ (by (repeat' (first | (with_reducible assumption) | (with_reducible refine Blk.top _ (by first | rfl | omega | (simp; done) | (simp; omega)) rfl) | (with_reducible refine Blk.alloc ?_ _) | (with_reducible refine Blk.drew ?_) | (with_reducible refine Blk.drewN ?_ _) | (with_reducible refine Blk.far ?_ (by first | omega | (simp; done) | (simp; omega)) _)))))).mono ?_); rintro e w4 ⟨rfl, r4, k4⟩); have O4 := Lib.hid ((O3.out.below (w' := (w3.alloc (.cells Z.toArray 5)).drew) (by (repeat' (first | (with_reducible exact Below.refl _ _) | (with_reducible assumption) | (with_reducible refine Below.drew ?_) | (with_reducible refine below_drewN ?_ _) | (with_reducible refine Below.alloc ?_ ?_ _) | (with_reducible refine Below.setCell ?_ ?_ _) | omega | (simp; done) | (simp; omega))))).rstep k4 r4); have u0 : w4.cell? ⟨w.heap.size, 0, none⟩ = some (.pointer (some ⟨q.d, 0, none⟩)) := O4.out.area.cell 0; have u1 : w4.cell? ⟨w.heap.size, 1, none⟩ = some (.int .i64 (f : Nat)) := O4.out.area.cell 1; have u2 : w4.cell? ⟨w.heap.size, 2, none⟩ = some (.int .i64 (m : Nat)) := O4.out.area.cell 2)
                      | fail "no arm")
                    go_wp2
                    try rw [Exit.noGoto_ret]
                    go_ret2
                    obtain ⟨j, hj⟩ : ∃ j, nx + (t + 1 + j) = m := ⟨m - (nx + (t + 1)), by have := hn.out; omega⟩
                    have e1 := HSK.out (t + 1 + j) (by have := hn.out; omega)
                    rw [hj] at e1
                    have e2 := HF9.out HZN.out j
                    have e3 := HUN.out
                    rw [e1, e2, if_pos HZN.out] at e3
                    rw [e3]
                    exact ROpPost.no HZN.out O4.out.disk O4.out.step
              · have htm : nx + t = m := by have := hn.out; omega
                have e1 := HSK.out t (by omega)
                rw [htm] at e1
                have e3 := HUN.out
                rw [e1, hwk.out, if_neg (by simp)] at e3
                simp only at e3
                have HO := Lib.hid hO
                have hfl := r_flush hO.disk (by have := hO.hs; omega)
                have hmge : ¬ ((n : Int) < m) := by omega
                clear hO
                by_cases hL : fromK D.now f nx t = []
                · rw [if_pos hL] at e3
                  have hu0 : u = 0 := by rw [hu.out, hL]; rfl
                  have HE3 := Lib.hid e3
                  clear e3 hfl hL e1
                  subst hu0
                  go_wp2
                  try rw [Exit.noGoto_ret]
                  go_ret2
                  rw [HE3.out]
                  exact HO.out.yes'
                · rw [if_neg hL] at e3
                  have hu0 : 0 < u := by
                    rcases Nat.eq_zero_or_pos u with q9 | q9
                    · rw [hu.out] at q9; exact absurd (List.eq_nil_of_length_eq_zero q9) hL
                    · exact q9
                  clear e1 hL
                  generalize flushV Dj = FV at *
                  obtain ⟨Df, z⟩ := FV
                  simp only at e3 hfl
                  by_cases hz : z = 0
                  · subst hz
                    rw [if_neg (by simp)] at e3
                    have HE3 := Lib.hid e3
                    clear e3
                    go_wp2_with (first
                      | (go_at_call 58; (with_reducible refine (hfl).mono ?_); rintro e w3 ⟨rfl, h3, s3⟩)
                      | fail "no arm")
                    try rw [Exit.noGoto_ret]
                    go_ret2
                    rw [HE3.out]
                    exact (HO.out.rstep s3 h3).yes'
                  · rw [if_pos hz] at e3
                    have hne : (z != 0) = true := by rw [bne_iff_ne]; exact hz
                    have HE3 := Lib.hid e3
                    have HZN := Lib.hid hz
                    clear e3 hz
                    go_wp2_with (first
                      | (go_at_call 58; (with_reducible refine (hfl).mono ?_); rintro e w3 ⟨rfl, h3, s3⟩)
                      | fail "no arm")
                    try rw [Exit.noGoto_ret]
                    go_ret2
                    rw [HE3.out]
                    exact ROpPost.no HZN.out h3 (HO.out.step.trans s3)
          | true =>
            have hop := refopen_yes ho g o2 c2
            by_cases hN : sg (openNum (secOf D.now ((f + nx : Nat) : Int))) = (nx : Int)
            · have hrn : recB (secOf D.now ((f + nx : Nat) : Int)) kind nx = true := by unfold recB; rw [ho, decide_eq_true hN]; rfl
              have HRN := Lib.hid (show ∀ j, j < nx + 1 → recB (secOf D.now ((f + j : Nat) : Int)) kind j = true from fun j hj => by
                rcases Nat.lt_or_ge j nx with q9 | q9
                · exact hrc.out j q9
                · have : j = nx := by omega
                  subst this; exact hrn)
              rw [hN] at hop
              have HO := Lib.hid hO
              have HRB := Lib.hid hrb
              clear hO ho hrb hN hrn
              go_wp2_with fail
              go_quiet (fail)
              go_wp2_with (first
                | ((go_at_call 159; (with_reducible refine (hop _ (HRB.out.below (B := wr.heap.size) (by (repeat' (first | (with_reducible exact Below.refl _ _) | (with_reducible assumption) | (with_reducible refine Below.drew ?_) | (with_reducible refine below_drewN ?_ _) | (with_reducible refine Below.alloc ?_ ?_ _) | (with_reducible refine Below.setCell ?_ ?_ _) | omega | (simp; done) | (simp; omega)))) (Nat.le_refl _)) hc2).mono ?_); rintro e w5 ⟨A5, k5, d5, rfl, hb5⟩); have b5 : Below wr.heap.size wr w5 := below_then' (by (repeat' (first | (with_reducible exact Below.refl _ _) | (with_reducible assumption) | (with_reducible refine Below.drew ?_) | (with_reducible refine below_drewN ?_ _) | (with_reducible refine Below.alloc ?_ ?_ _) | (with_reducible refine Below.setCell ?_ ?_ _) | omega | (simp; done) | (simp; omega)))) hb5 (by first | omega | (simp; done) | (simp; omega)); have O5 := Lib.hid (HO.out.below b5); have z4 : w5.cell? ⟨w.heap.size + 1, 4, none⟩ = some (.int .i64 (nx : Nat)) := Blk.cell O5.out.jrn 4; have z4f := Blk.frozen O5.out.jrn 4; have z4l := Blk.lt O5.out.jrn)
                | fail "no arm")
              go_roundw
              case rel => first
                | exact ⟨nx + 1, by omega, HRN, O5.out.next⟩
                | ((repeat apply Exists.intro); exact ⟨⟨nx + 1, by omega, HRN, O5.out.next⟩, rfl⟩)
              case measure => (have e1 := O5.out.next.nxIs; have e2 := HO.out.nxIs; simp only [e1, e2]; omega)
            · have hsc := scanK_back (HSC.out nx hrc.out) (by unfold recB; rw [ho, decide_eq_false hN]; rfl)
              have HSK := Lib.hid (fun j (_ : nx + j ≤ m) => (hsc j).1)
              have HO := Lib.hid hO
              have HRB := Lib.hid hrb
              generalize sg (openNum (secOf D.now ((f + nx : Nat) : Int))) = nn at *
              have hne : (nn != (nx : Int)) = true := by rw [bne_iff_ne]; exact hN
              clear hO hsc ho hrb hN
              go_wp2_with fail
              go_quiet (fail)
              go_wp2_with (first
                | ((go_at_call 159; (with_reducible refine (hop _ (HRB.out.below (B := wr.heap.size) (by (repeat' (first | (with_reducible exact Below.refl _ _) | (with_reducible assumption) | (with_reducible refine Below.drew ?_) | (with_reducible refine below_drewN ?_ _) | (with_reducible refine Below.alloc ?_ ?_ _) | (with_reducible refine Below.setCell ?_ ?_ _) | omega | (simp; done) | (simp; omega)))) (Nat.le_refl _)) hc2).mono ?_); rintro e w5 ⟨A5, k5, d5, rfl, hb5⟩); have b5 : Below wr.heap.size wr w5 := below_then' (by (repeat' (first | (with_reducible exact Below.refl _ _) | (with_reducible assumption) | (with_reducible refine Below.drew ?_) | (with_reducible refine below_drewN ?_ _) | (with_reducible refine Below.alloc ?_ ?_ _) | (with_reducible refine Below.setCell ?_ ?_ _) | omega | (simp; done) | (simp; omega)))) hb5 (by first | omega | (simp; done) | (simp; omega)); have O5 := Lib.hid (HO.out.below b5); have z4 : w5.cell? ⟨w.heap.size + 1, 4, none⟩ = some (.int .i64 (nx : Nat)) := Blk.cell O5.out.jrn 4)
                | fail "no arm")
              go_wp2_with fail
              go_loopw [14, 15] (fun v i wr => ∃ (n t u : Nat) (Dj : DiskV), Hid (n = nx + t) ∧ n ≤ m ∧ t ≤ n ∧ i = .int .i64 (n : Nat) ∧ v = .int .i64 (u : Int) ∧ Hid (u = (fromK D.now f nx t).length) ∧ u ≤ t ∧ Hid (wipeK (rdK D m) f m (fromK D.now f nx t) = (Dj, 0)) ∧ Dj.many = D.many ∧ Dj.waits.length ≤ D.waits.length + t ∧ ROp w wr base q Dj f m w.heap.size (w.heap.size + 1) kind nx (some ⟨b, o1, none⟩) m c D.now) (fun _ i _ => m - (intOf i).toNat)
              case atStart => exact ⟨nx, 0, 0, rdK D m, Lib.hid rfl, by omega, by omega, rfl, rfl, Lib.hid rfl, by omega, Lib.hid rfl, HR.out.1, by have := HR.out.2; omega, O5.out⟩
              case round =>
                obtain ⟨n, t, u, Dj, hn, ht, htn, rfl, rfl, hu, hut, hwk, hmj, hwj, hO⟩ := hrel
                have hsz := hO.size
                have y0 : wr.cell? ⟨w.heap.size, 0, none⟩ = some (.pointer (some ⟨q.d, 0, none⟩)) := hO.area.cell 0
                have y1 : wr.cell? ⟨w.heap.size, 1, none⟩ = some (.int .i64 (f : Nat)) := hO.area.cell 1
                have y2 : wr.cell? ⟨w.heap.size, 2, none⟩ = some (.int .i64 (m : Nat)) := hO.area.cell 2
                have HF := Lib.hid (show fromK D.now f nx (t + 1) = if secOf D.now ((f + n : Nat) : Int) = zerosL then fromK D.now f nx t else fromK D.now f nx t ++ [(n : Int)] from by rw [hn.out]; rfl)
                by_cases hlt : n < m
                · obtain ⟨b3, o3, g3, o4, c4, hB3, hbl, hcell, hc4, hrb⟩ := hO.at_ hlt
                  have c1 := fun (b : Bool) (hb : decide (secOf D.now ((f + n : Nat) : Int) = zerosL) = b) (W : World) (gz : Nat) (h1 : RB W (some ⟨g3, o4, none⟩) 128 (secOf D.now ((f + n : Nat) : Int))) (h2 : RB W (some ⟨gz, 0, none⟩) 128 zerosL) => (same_any (some ⟨g3, o4, none⟩) (some ⟨gz, 0, none⟩) 128 128 c4 128 _ _ W h1 h2 (by unfold maxLen; omega)).mono (fun e w' hp => (show e = .returned (.bool b) ∧ Below W.heap.size W w' from by
                    obtain ⟨e1, q9, e2⟩ := hp
                    subst e2
                    exact ⟨by rw [e1, hb], below_drewN (Below.refl _ _) q9⟩))
                  have hltI : (n : Int) < m := by omega
                  have HO := Lib.hid hO
                  have cw := fun {W : World} (h : ROp w W base q Dj f m w.heap.size (w.heap.size + 1) kind nx (some ⟨b, o1, none⟩) m c D.now) (g9 : Nat) (h9 : RB W (some ⟨g9, 0, none⟩) 128 zerosL) => ra_write h.disk (by have := h.hs; have := h.size; omega) (f := f) (m := m) (by rw [hmj]; exact hfm) (n : Int) (some ⟨g9, 0, none⟩) 128 zerosL zerosL_len h9 (by omega)
                  have hmw := aWriteV_many Dj f m (n : Int) zerosL
                  have HMW := Lib.hid hmw
                  have hfail := fun hf hz j => wipe_fail (n := (n : Int)) hwk.out hf hz j
                  have hmore := fun hf => wipe_more (n := (n : Int)) hwk.out hf
                  have HFAIL := Lib.hid hfail
                  have HMORE := Lib.hid hmore
                  clear hO hmw hfail hmore
                  have HB3 := Lib.hid hB3
                  cases hB3
                  generalize hS : secOf D.now ((f + n : Nat) : Int) = S at *
                  have HRB := Lib.hid hrb
                  clear hrb hS
                  have hnt4 : n ≤ 4096 := by omega
                  by_cases hz : S = zerosL
                  · have c2 := c1 true (decide_eq_true hz)
                    have HZ2 := Lib.hid hz
                    clear c1 hz
                    go_wp2_with fail
                    go_region_held3 (fun w' => w'.cell? ⟨b, o1 + n, none⟩ = some (.slice (some ⟨g3, o4, none⟩) 128 c4)) (first | go_keep | assumption) (first
                      | ((go_at_call 16; (with_reducible refine (c2 _ wr.heap.size (HRB.out.below (B := wr.heap.size) (by (repeat' (first | (with_reducible exact Below.refl _ _) | (with_reducible assumption) | (with_reducible refine Below.drew ?_) | (with_reducible refine below_drewN ?_ _) | (with_reducible refine Below.alloc ?_ ?_ _) | (with_reducible refine Below.setCell ?_ ?_ _) | omega | (simp; done) | (simp; omega)))) (Nat.le_refl _)) (RBZ.out _ _ (by (repeat' (first | (with_reducible assumption) | (with_reducible refine Blk.top _ (by first | rfl | omega | (simp; done) | (simp; omega)) rfl) | (with_reducible refine Blk.alloc ?_ _) | (with_reducible refine Blk.drew ?_) | (with_reducible refine Blk.drewN ?_ _) | (with_reducible refine Blk.far ?_ (by first | omega | (simp; done) | (simp; omega)) _)))))).mono ?_); rintro e w3 ⟨rfl, hb3⟩); have b3q : Below wr.heap.size wr w3 := below_then' (by (repeat' (first | (with_reducible exact Below.refl _ _) | (with_reducible assumption) | (with_reducible refine Below.drew ?_) | (with_reducible refine below_drewN ?_ _) | (with_reducible refine Below.alloc ?_ ?_ _) | (with_reducible refine Below.setCell ?_ ?_ _) | omega | (simp; done) | (simp; omega)))) hb3 (by first | omega | (simp; done) | (simp; omega)); have y3 : w3.cell? ⟨b, o1 + n, none⟩ = some (.slice (some ⟨g3, o4, none⟩) 128 c4) := (b3q.cell (p := ⟨b, o1 + n, none⟩) hbl).trans hcell; have O3 := Lib.hid (HO.out.below b3q))
                      | fail "no arm")
                    go_wp2
                    go_roundw
                    case rel =>
                      have e9 : fromK D.now f nx (t + 1) = fromK D.now f nx t := by rw [HF.out, if_pos HZ2.out]
                      have k1 : Hid (u = (fromK D.now f nx (t + 1)).length) := by rw [e9]; exact hu
                      have k2 : Hid (wipeK (rdK D m) f m (fromK D.now f nx (t + 1)) = (Dj, 0)) := by rw [e9]; exact hwk
                      first
                        | exact ⟨n + 1, t + 1, u, Dj, Lib.hid (by rw [hn.out, Nat.add_assoc]), by omega, by omega, by go_num, rfl, k1, by omega, k2, hmj, by omega, O3.out⟩
                        | ((repeat apply Exists.intro); exact ⟨⟨n + 1, t + 1, u, Dj, Lib.hid (by rw [hn.out, Nat.add_assoc]), by omega, by omega, by go_num, rfl, k1, by omega, k2, hmj, by omega, O3.out⟩, rfl⟩)
                    case measure => simp [intOf]; omega
                  · have c2 := c1 false (decide_eq_false hz)
                    have HFZ := Lib.hid (show fromK D.now f nx (t + 1) = fromK D.now f nx t ++ [(n : Int)] from by rw [HF.out, if_neg hz])
                    have hm9 := HMORE.out HFZ.out
                    have hf9 := HFAIL.out HFZ.out
                    clear c1 hz
                    generalize aWriteV Dj f m (n : Int) zerosL = P at *
                    obtain ⟨Dn, z⟩ := P
                    simp only at cw hf9
                    have HM9 := Lib.hid hm9
                    have HF9 := Lib.hid hf9
                    clear hm9 hf9
                    go_wp2_with fail
                    go_region_held3 (fun w' => w'.cell? ⟨b, o1 + n, none⟩ = some (.slice (some ⟨g3, o4, none⟩) 128 c4)) (first | go_keep | assumption) (first
                      | ((go_at_call 16; (with_reducible refine (c2 _ wr.heap.size (HRB.out.below (B := wr.heap.size) (by (repeat' (first | (with_reducible exact Below.refl _ _) | (with_reducible assumption) | (with_reducible refine Below.drew ?_) | (with_reducible refine below_drewN ?_ _) | (with_reducible refine Below.alloc ?_ ?_ _) | (with_reducible refine Below.setCell ?_ ?_ _) | omega | (simp; done) | (simp; omega)))) (Nat.le_refl _)) (RBZ.out _ _ (by (repeat' (first | (with_reducible assumption) | (with_reducible refine Blk.top _ (by first | rfl | omega | (simp; done) | (simp; omega)) rfl) | (with_reducible refine Blk.alloc ?_ _) | (with_reducible refine Blk.drew ?_) | (with_reducible refine Blk.drewN ?_ _) | (with_reducible refine Blk.far ?_ (by first | omega | (simp; done) | (simp; omega)) _)))))).mono ?_); rintro e w3 ⟨rfl, hb3⟩); have b3q : Below wr.heap.size wr w3 := below_then' (by (repeat' (first | (with_reducible exact Below.refl _ _) | (with_reducible assumption) | (with_reducible refine Below.drew ?_) | (with_reducible refine below_drewN ?_ _) | (with_reducible refine Below.alloc ?_ ?_ _) | (with_reducible refine Below.setCell ?_ ?_ _) | omega | (simp; done) | (simp; omega)))) hb3 (by first | omega | (simp; done) | (simp; omega)); have y3 : w3.cell? ⟨b, o1 + n, none⟩ = some (.slice (some ⟨g3, o4, none⟩) 128 c4) := (b3q.cell (p := ⟨b, o1 + n, none⟩) hbl).trans hcell; have O3 := Lib.hid (HO.out.below b3q); have a0 : w3.cell? ⟨w.heap.size, 0, none⟩ = some (.pointer (some ⟨q.d, 0, none⟩)) := O3.out.area.cell 0; have a1 : w3.cell? ⟨w.heap.size, 1, none⟩ = some (.int .i64 (f : Nat)) := O3.out.area.cell 1; have a2 : w3.cell? ⟨w.heap.size, 2, none⟩ = some (.int .i64 (m : Nat)) := O3.out.area.cell 2)
                      | fail "no arm")
                    go_wp2_with fail
                    by_cases hz : z = 0
                    · subst hz
                      go_region_held3 (fun w' => w'.cell? ⟨w.heap.size, 0, none⟩ = some (.pointer (some ⟨q.d, 0, none⟩)) ∧ w'.cell? ⟨w.heap.size, 1, none⟩ = some (.int .i64 (f : Nat)) ∧ w'.cell? ⟨w.heap.size, 2, none⟩ = some (.int .i64 (m : Nat))) (first | go_keep | (refine ⟨?_, ?_, ?_⟩ <;> assumption)) (first
                        | ((go_at_call 143; (with_reducible refine (cw (O3.out.below (by (repeat' (first | (with_reducible exact Below.refl _ _) | (with_reducible assumption) | (with_reducible refine Below.drew ?_) | (with_reducible refine below_drewN ?_ _) | (with_reducible refine Below.alloc ?_ ?_ _) | (with_reducible refine Below.setCell ?_ ?_ _) | omega | (simp; done) | (simp; omega))))) w3.heap.size (RBZ.out _ _ (by (repeat' (first | (with_reducible assumption) | (with_reducible refine Blk.top _ (by first | rfl | omega | (simp; done) | (simp; omega)) rfl) | (with_reducible refine Blk.alloc ?_ _) | (with_reducible refine Blk.drew ?_) | (with_reducible refine Blk.drewN ?_ _) | (with_reducible refine Blk.far ?_ (by first | omega | (simp; done) | (simp; omega)) _)))))).mono ?_); rintro e w4 ⟨rfl, r4, k4⟩); have O4 := Lib.hid ((O3.out.below (w' := (w3.alloc (.cells Z.toArray 5)).drew) (by (repeat' (first | (with_reducible exact Below.refl _ _) | (with_reducible assumption) | (with_reducible refine Below.drew ?_) | (with_reducible refine below_drewN ?_ _) | (with_reducible refine Below.alloc ?_ ?_ _) | (with_reducible refine Below.setCell ?_ ?_ _) | omega | (simp; done) | (simp; omega))))).rstep k4 r4); have u0 : w4.cell? ⟨w.heap.size, 0, none⟩ = some (.pointer (some ⟨q.d, 0, none⟩)) := O4.out.area.cell 0; have u1 : w4.cell? ⟨w.heap.size, 1, none⟩ = some (.int .i64 (f : Nat)) := O4.out.area.cell 1; have u2 : w4.cell? ⟨w.heap.size, 2, none⟩ = some (.int .i64 (m : Nat)) := O4.out.area.cell 2)
                        | fail "no arm")
                      go_wp2
                      go_roundw
                      case rel =>
                        have k1 : Hid (u + 1 = (fromK D.now f nx (t + 1)).length) := by show _ = _; rw [HFZ.out, List.length_append, List.length_singleton, hu.out]
                        have m1 := HMW.out
                        first
                          | exact ⟨n + 1, t + 1, u + 1, Dn, Lib.hid (by rw [hn.out, Nat.add_assoc]), by omega, by omega, by go_num, by go_num, k1, by omega, HM9, by omega, by omega, O4.out⟩
                          | ((repeat apply Exists.intro); exact ⟨⟨n + 1, t + 1, u + 1, Dn, Lib.hid (by rw [hn.out, Nat.add_assoc]), by omega, by omega, by go_num, by go_num, k1, by omega, HM9, by omega, by omega, O4.out⟩, rfl⟩)
                      case measure => simp [intOf]; omega
                    · have hne : (z != 0) = true := by rw [bne_iff_ne]; exact hz
                      have HZN := Lib.hid hz
                      clear hz
                      go_region_held3 (fun w' => w'.cell? ⟨w.heap.size, 0, none⟩ = some (.pointer (some ⟨q.d, 0, none⟩)) ∧ w'.cell? ⟨w.heap.size, 1, none⟩ = some (.int .i64 (f : Nat)) ∧ w'.cell? ⟨w.heap.size, 2, none⟩ = some (.int .i64 (m : Nat))) (first | go_keep | (refine ⟨?_, ?_, ?_⟩ <;> assumption)) (first
                        | ((go_at_call 143; (with_reducible refine (cw (O3.out.below (by (repeat' (first | (with_reducible exact Below.refl _ _) | (with_reducible assumption) | (with_reducible refine Below.drew ?_) | (with_reducible refine below_drewN ?_ _) | (with_reducible refine Below.alloc ?_ ?_ _) | (with_reducible refine Below.setCell ?_ ?_ _) | omega | (simp; done) | (simp; omega))))) w3.heap.size (RBZ.out _ _ (by (repeat' (first | (with_reducible assumption) | (with_reducible refine Blk.top _ (by first | rfl | omega | (simp; done) | (simp; omega)) rfl) | (with_reducible refine Blk.alloc ?_ _) | (with_reducible refine Blk.drew ?_) | (with_reducible refine Blk.drewN ?_ _) | (with_reducible refine Blk.far ?_ (by first | omega | (simp; done) | (simp; omega)) _)))))).mono ?_); rintro e w4 ⟨rfl, r4, k4⟩); have O4 := Lib.hid ((O3.out.below (w' := (w3.alloc (.cells Z.toArray 5)).drew) (by (repeat' (first | (with_reducible exact Below.refl _ _) | (with_reducible assumption) | (with_reducible refine Below.drew ?_) | (with_reducible refine below_drewN ?_ _) | (with_reducible refine Below.alloc ?_ ?_ _) | (with_reducible refine Below.setCell ?_ ?_ _) | omega | (simp; done) | (simp; omega))))).rstep k4 r4); have u0 : w4.cell? ⟨w.heap.size, 0, none⟩ = some (.pointer (some ⟨q.d, 0, none⟩)) := O4.out.area.cell 0; have u1 : w4.cell? ⟨w.heap.size, 1, none⟩ = some (.int .i64 (f : Nat)) := O4.out.area.cell 1; have u2 : w4.cell? ⟨w.heap.size, 2, none⟩ = some (.int .i64 (m : Nat)) := O4.out.area.cell 2)
                        | fail "no arm")
                      go_wp2
                      try rw [Exit.noGoto_ret]
                      go_ret2
                      obtain ⟨j, hj⟩ : ∃ j, nx + (t + 1 + j) = m := ⟨m - (nx + (t + 1)), by have := hn.out; omega⟩
                      have e1 := HSK.out (t + 1 + j) (by have := hn.out; omega)
                      rw [hj] at e1
                      have e2 := HF9.out HZN.out j
                      have e3 := HUN.out
                      rw [e1, e2, if_pos HZN.out] at e3
                      rw [e3]
                      exact ROpPost.no HZN.out O4.out.disk O4.out.step
                · have htm : nx + t = m := by have := hn.out; omega
                  have e1 := HSK.out t (by omega)
                  rw [htm] at e1
                  have e3 := HUN.out
                  rw [e1, hwk.out, if_neg (by simp)] at e3
                  simp only at e3
                  have HO := Lib.hid hO
                  have hfl := r_flush hO.disk (by have := hO.hs; omega)
                  have hmge : ¬ ((n : Int) < m) := by omega
                  clear hO
                  by_cases hL : fromK D.now f nx t = []
                  · rw [if_pos hL] at e3
                    have hu0 : u = 0 := by rw [hu.out, hL]; rfl
                    have HE3 := Lib.hid e3
                    clear e3 hfl hL e1
                    subst hu0
                    go_wp2
                    try rw [Exit.noGoto_ret]
                    go_ret2
                    rw [HE3.out]
                    exact HO.out.yes'
                  · rw [if_neg hL] at e3
                    have hu0 : 0 < u := by
                      rcases Nat.eq_zero_or_pos u with q9 | q9
                      · rw [hu.out] at q9; exact absurd (List.eq_nil_of_length_eq_zero q9) hL
                      · exact q9
                    clear e1 hL
                    generalize flushV Dj = FV at *
                    obtain ⟨Df, z⟩ := FV
                    simp only at e3 hfl
                    by_cases hz : z = 0
                    · subst hz
                      rw [if_neg (by simp)] at e3
                      have HE3 := Lib.hid e3
                      clear e3
                      go_wp2_with (first
                        | (go_at_call 58; (with_reducible refine (hfl).mono ?_); rintro e w3 ⟨rfl, h3, s3⟩)
                        | fail "no arm")
                      try rw [Exit.noGoto_ret]
                      go_ret2
                      rw [HE3.out]
                      exact (HO.out.rstep s3 h3).yes'
                    · rw [if_pos hz] at e3
                      have hne : (z != 0) = true := by rw [bne_iff_ne]; exact hz
                      have HE3 := Lib.hid e3
                      have HZN := Lib.hid hz
                      clear e3 hz
                      go_wp2_with (first
                        | (go_at_call 58; (with_reducible refine (hfl).mono ?_); rintro e w3 ⟨rfl, h3, s3⟩)
                        | fail "no arm")
                      try rw [Exit.noGoto_ret]
                      go_ret2
                      rw [HE3.out]
                      exact ROpPost.no HZN.out h3 (HO.out.step.trans s3)
        · have hnm : nx = m := by omega
          have HSK := Lib.hid (show ∀ j, nx + j ≤ m → (scanK D.now f kind (nx + j)).2 = (nx, fromK D.now f nx j) from fun j hj => by
            have : j = 0 := by omega
            subst this
            rw [Nat.add_zero, HSC.out nx hrc.out]; rfl)
          have HO := Lib.hid hO
          have hge : ¬ ((nx : Int) < m) := by omega
          clear hO hnm
          go_wp2_with fail
          go_quiet (fail)
          have O5 := Lib.hid (HO.out.below (below_drewN (Below.refl wr.heap.size wr) nq))
          have b5 : Below wr.heap.size wr (wr.drewN nq) := below_drewN (Below.refl wr.heap.size wr) nq
          have z4 : (wr.drewN nq).cell? ⟨w.heap.size + 1, 4, none⟩ = some (.int .i64 (nx : Nat)) := Blk.cell O5.out.jrn 4
          generalize wr.drewN nq = w5 at *
          clear hge hlt
          go_wp2_with fail
          go_loopw [14, 15] (fun v i wr => ∃ (n t u : Nat) (Dj : DiskV), Hid (n = nx + t) ∧ n ≤ m ∧ t ≤ n ∧ i = .int .i64 (n : Nat) ∧ v = .int .i64 (u : Int) ∧ Hid (u = (fromK D.now f nx t).length) ∧ u ≤ t ∧ Hid (wipeK (rdK D m) f m (fromK D.now f nx t) = (Dj, 0)) ∧ Dj.many = D.many ∧ Dj.waits.length ≤ D.waits.length + t ∧ ROp w wr base q Dj f m w.heap.size (w.heap.size + 1) kind nx (B) m c D.now) (fun _ i _ => m - (intOf i).toNat)
          case atStart => exact ⟨nx, 0, 0, rdK D m, Lib.hid rfl, by omega, by omega, rfl, rfl, Lib.hid rfl, by omega, Lib.hid rfl, HR.out.1, by have := HR.out.2; omega, O5.out⟩
          case round =>
            obtain ⟨n, t, u, Dj, hn, ht, htn, rfl, rfl, hu, hut, hwk, hmj, hwj, hO⟩ := hrel
            have hsz := hO.size
            have y0 : wr.cell? ⟨w.heap.size, 0, none⟩ = some (.pointer (some ⟨q.d, 0, none⟩)) := hO.area.cell 0
            have y1 : wr.cell? ⟨w.heap.size, 1, none⟩ = some (.int .i64 (f : Nat)) := hO.area.cell 1
            have y2 : wr.cell? ⟨w.heap.size, 2, none⟩ = some (.int .i64 (m : Nat)) := hO.area.cell 2
            have HF := Lib.hid (show fromK D.now f nx (t + 1) = if secOf D.now ((f + n : Nat) : Int) = zerosL then fromK D.now f nx t else fromK D.now f nx t ++ [(n : Int)] from by rw [hn.out]; rfl)
            by_cases hlt : n < m
            · obtain ⟨b3, o3, g3, o4, c4, hB3, hbl, hcell, hc4, hrb⟩ := hO.at_ hlt
              have c1 := fun (b : Bool) (hb : decide (secOf D.now ((f + n : Nat) : Int) = zerosL) = b) (W : World) (gz : Nat) (h1 : RB W (some ⟨g3, o4, none⟩) 128 (secOf D.now ((f + n : Nat) : Int))) (h2 : RB W (some ⟨gz, 0, none⟩) 128 zerosL) => (same_any (some ⟨g3, o4, none⟩) (some ⟨gz, 0, none⟩) 128 128 c4 128 _ _ W h1 h2 (by unfold maxLen; omega)).mono (fun e w' hp => (show e = .returned (.bool b) ∧ Below W.heap.size W w' from by
                obtain ⟨e1, q9, e2⟩ := hp
                subst e2
                exact ⟨by rw [e1, hb], below_drewN (Below.refl _ _) q9⟩))
              have hltI : (n : Int) < m := by omega
              have HO := Lib.hid hO
              have cw := fun {W : World} (h : ROp w W base q Dj f m w.heap.size (w.heap.size + 1) kind nx (B) m c D.now) (g9 : Nat) (h9 : RB W (some ⟨g9, 0, none⟩) 128 zerosL) => ra_write h.disk (by have := h.hs; have := h.size; omega) (f := f) (m := m) (by rw [hmj]; exact hfm) (n : Int) (some ⟨g9, 0, none⟩) 128 zerosL zerosL_len h9 (by omega)
              have hmw := aWriteV_many Dj f m (n : Int) zerosL
              have HMW := Lib.hid hmw
              have hfail := fun hf hz j => wipe_fail (n := (n : Int)) hwk.out hf hz j
              have hmore := fun hf => wipe_more (n := (n : Int)) hwk.out hf
              have HFAIL := Lib.hid hfail
              have HMORE := Lib.hid hmore
              clear hO hmw hfail hmore
              have HB3 := Lib.hid hB3
              cases hB3
              generalize hS : secOf D.now ((f + n : Nat) : Int) = S at *
              have HRB := Lib.hid hrb
              clear hrb hS
              have hnt4 : n ≤ 4096 := by omega
              by_cases hz : S = zerosL
              · have c2 := c1 true (decide_eq_true hz)
                have HZ2 := Lib.hid hz
                clear c1 hz
                go_wp2_with fail
                go_region_held3 (fun w' => w'.cell? ⟨b3, o3 + n, none⟩ = some (.slice (some ⟨g3, o4, none⟩) 128 c4)) (first | go_keep | assumption) (first
                  | ((go_at_call 16; (with_reducible refine (c2 _ wr.heap.size (HRB.out.below (B := wr.heap.size) (by (repeat' (first | (with_reducible exact Below.refl _ _) | (with_reducible assumption) | (with_reducible refine Below.drew ?_) | (with_reducible refine below_drewN ?_ _) | (with_reducible refine Below.alloc ?_ ?_ _) | (with_reducible refine Below.setCell ?_ ?_ _) | omega | (simp; done) | (simp; omega)))) (Nat.le_refl _)) (RBZ.out _ _ (by (repeat' (first | (with_reducible assumption) | (with_reducible refine Blk.top _ (by first | rfl | omega | (simp; done) | (simp; omega)) rfl) | (with_reducible refine Blk.alloc ?_ _) | (with_reducible refine Blk.drew ?_) | (with_reducible refine Blk.drewN ?_ _) | (with_reducible refine Blk.far ?_ (by first | omega | (simp; done) | (simp; omega)) _)))))).mono ?_); rintro e w3 ⟨rfl, hb3⟩); have b3q : Below wr.heap.size wr w3 := below_then' (by (repeat' (first | (with_reducible exact Below.refl _ _) | (with_reducible assumption) | (with_reducible refine Below.drew ?_) | (with_reducible refine below_drewN ?_ _) | (with_reducible refine Below.alloc ?_ ?_ _) | (with_reducible refine Below.setCell ?_ ?_ _) | omega | (simp; done) | (simp; omega)))) hb3 (by first | omega | (simp; done) | (simp; omega)); have y3 : w3.cell? ⟨b3, o3 + n, none⟩ = some (.slice (some ⟨g3, o4, none⟩) 128 c4) := (b3q.cell (p := ⟨b3, o3 + n, none⟩) hbl).trans hcell; have O3 := Lib.hid (HO.out.below b3q))
                  | fail "no arm")
                go_wp2
                go_roundw
                case rel =>
                  have e9 : fromK D.now f nx (t + 1) = fromK D.now f nx t := by rw [HF.out, if_pos HZ2.out]
                  have k1 : Hid (u = (fromK D.now f nx (t + 1)).length) := by rw [e9]; exact hu
                  have k2 : Hid (wipeK (rdK D m) f m (fromK D.now f nx (t + 1)) = (Dj, 0)) := by rw [e9]; exact hwk
                  first
                    | exact ⟨n + 1, t + 1, u, Dj, Lib.hid (by rw [hn.out, Nat.add_assoc]), by omega, by omega, by go_num, rfl, k1, by omega, k2, hmj, by omega, O3.out⟩
                    | ((repeat apply Exists.intro); exact ⟨⟨n + 1, t + 1, u, Dj, Lib.hid (by rw [hn.out, Nat.add_assoc]), by omega, by omega, by go_num, rfl, k1, by omega, k2, hmj, by omega, O3.out⟩, rfl⟩)
                case measure => simp [intOf]; omega
              · have c2 := c1 false (decide_eq_false hz)
                have HFZ := Lib.hid (show fromK D.now f nx (t + 1) = fromK D.now f nx t ++ [(n : Int)] from by rw [HF.out, if_neg hz])
                have hm9 := HMORE.out HFZ.out
                have hf9 := HFAIL.out HFZ.out
                clear c1 hz
                generalize aWriteV Dj f m (n : Int) zerosL = P at *
                obtain ⟨Dn, z⟩ := P
                simp only at cw hf9
                have HM9 := Lib.hid hm9
                have HF9 := Lib.hid hf9
                clear hm9 hf9
                go_wp2_with fail
                go_region_held3 (fun w' => w'.cell? ⟨b3, o3 + n, none⟩ = some (.slice (some ⟨g3, o4, none⟩) 128 c4)) (first | go_keep | assumption) (first
                  | ((go_at_call 16; (with_reducible refine (c2 _ wr.heap.size (HRB.out.below (B := wr.heap.size) (by (repeat' (first | (with_reducible exact Below.refl _ _) | (with_reducible assumption) | (with_reducible refine Below.drew ?_) | (with_reducible refine below_drewN ?_ _) | (with_reducible refine Below.alloc ?_ ?_ _) | (with_reducible refine Below.setCell ?_ ?_ _) | omega | (simp; done) | (simp; omega)))) (Nat.le_refl _)) (RBZ.out _ _ (by (repeat' (first | (with_reducible assumption) | (with_reducible refine Blk.top _ (by first | rfl | omega | (simp; done) | (simp; omega)) rfl) | (with_reducible refine Blk.alloc ?_ _) | (with_reducible refine Blk.drew ?_) | (with_reducible refine Blk.drewN ?_ _) | (with_reducible refine Blk.far ?_ (by first | omega | (simp; done) | (simp; omega)) _)))))).mono ?_); rintro e w3 ⟨rfl, hb3⟩); have b3q : Below wr.heap.size wr w3 := below_then' (by (repeat' (first | (with_reducible exact Below.refl _ _) | (with_reducible assumption) | (with_reducible refine Below.drew ?_) | (with_reducible refine below_drewN ?_ _) | (with_reducible refine Below.alloc ?_ ?_ _) | (with_reducible refine Below.setCell ?_ ?_ _) | omega | (simp; done) | (simp; omega)))) hb3 (by first | omega | (simp; done) | (simp; omega)); have y3 : w3.cell? ⟨b3, o3 + n, none⟩ = some (.slice (some ⟨g3, o4, none⟩) 128 c4) := (b3q.cell (p := ⟨b3, o3 + n, none⟩) hbl).trans hcell; have O3 := Lib.hid (HO.out.below b3q); have a0 : w3.cell? ⟨w.heap.size, 0, none⟩ = some (.pointer (some ⟨q.d, 0, none⟩)) := O3.out.area.cell 0; have a1 : w3.cell? ⟨w.heap.size, 1, none⟩ = some (.int .i64 (f : Nat)) := O3.out.area.cell 1; have a2 : w3.cell? ⟨w.heap.size, 2, none⟩ = some (.int .i64 (m : Nat)) := O3.out.area.cell 2)
                  | fail "no arm")
                go_wp2_with fail
                by_cases hz : z = 0
                · subst hz
                  go_region_held3 (fun w' => w'.cell? ⟨w.heap.size, 0, none⟩ = some (.pointer (some ⟨q.d, 0, none⟩)) ∧ w'.cell? ⟨w.heap.size, 1, none⟩ = some (.int .i64 (f : Nat)) ∧ w'.cell? ⟨w.heap.size, 2, none⟩ = some (.int .i64 (m : Nat))) (first | go_keep | (refine ⟨?_, ?_, ?_⟩ <;> assumption)) (first
                    | ((go_at_call 143; (with_reducible refine (cw (O3.out.below (by (repeat' (first | (with_reducible exact Below.refl _ _) | (with_reducible assumption) | (with_reducible refine Below.drew ?_) | (with_reducible refine below_drewN ?_ _) | (with_reducible refine Below.alloc ?_ ?_ _) | (with_reducible refine Below.setCell ?_ ?_ _) | omega | (simp; done) | (simp; omega))))) w3.heap.size (RBZ.out _ _ (by (repeat' (first | (with_reducible assumption) | (with_reducible refine Blk.top _ (by first | rfl | omega | (simp; done) | (simp; omega)) rfl) | (with_reducible refine Blk.alloc ?_ _) | (with_reducible refine Blk.drew ?_) | (with_reducible refine Blk.drewN ?_ _) | (with_reducible refine Blk.far ?_ (by first | omega | (simp; done) | (simp; omega)) _)))))).mono ?_); rintro e w4 ⟨rfl, r4, k4⟩); have O4 := Lib.hid ((O3.out.below (w' := (w3.alloc (.cells Z.toArray 5)).drew) (by (repeat' (first | (with_reducible exact Below.refl _ _) | (with_reducible assumption) | (with_reducible refine Below.drew ?_) | (with_reducible refine below_drewN ?_ _) | (with_reducible refine Below.alloc ?_ ?_ _) | (with_reducible refine Below.setCell ?_ ?_ _) | omega | (simp; done) | (simp; omega))))).rstep k4 r4); have u0 : w4.cell? ⟨w.heap.size, 0, none⟩ = some (.pointer (some ⟨q.d, 0, none⟩)) := O4.out.area.cell 0; have u1 : w4.cell? ⟨w.heap.size, 1, none⟩ = some (.int .i64 (f : Nat)) := O4.out.area.cell 1; have u2 : w4.cell? ⟨w.heap.size, 2, none⟩ = some (.int .i64 (m : Nat)) := O4.out.area.cell 2)
                    | fail "no arm")
                  go_wp2
                  go_roundw
                  case rel =>
                    have k1 : Hid (u + 1 = (fromK D.now f nx (t + 1)).length) := by show _ = _; rw [HFZ.out, List.length_append, List.length_singleton, hu.out]
                    have m1 := HMW.out
                    first
                      | exact ⟨n + 1, t + 1, u + 1, Dn, Lib.hid (by rw [hn.out, Nat.add_assoc]), by omega, by omega, by go_num, by go_num, k1, by omega, HM9, by omega, by omega, O4.out⟩
                      | ((repeat apply Exists.intro); exact ⟨⟨n + 1, t + 1, u + 1, Dn, Lib.hid (by rw [hn.out, Nat.add_assoc]), by omega, by omega, by go_num, by go_num, k1, by omega, HM9, by omega, by omega, O4.out⟩, rfl⟩)
                  case measure => simp [intOf]; omega
                · have hne : (z != 0) = true := by rw [bne_iff_ne]; exact hz
                  have HZN := Lib.hid hz
                  clear hz
                  go_region_held3 (fun w' => w'.cell? ⟨w.heap.size, 0, none⟩ = some (.pointer (some ⟨q.d, 0, none⟩)) ∧ w'.cell? ⟨w.heap.size, 1, none⟩ = some (.int .i64 (f : Nat)) ∧ w'.cell? ⟨w.heap.size, 2, none⟩ = some (.int .i64 (m : Nat))) (first | go_keep | (refine ⟨?_, ?_, ?_⟩ <;> assumption)) (first
                    | ((go_at_call 143; (with_reducible refine (cw (O3.out.below (by (repeat' (first | (with_reducible exact Below.refl _ _) | (with_reducible assumption) | (with_reducible refine Below.drew ?_) | (with_reducible refine below_drewN ?_ _) | (with_reducible refine Below.alloc ?_ ?_ _) | (with_reducible refine Below.setCell ?_ ?_ _) | omega | (simp; done) | (simp; omega))))) w3.heap.size (RBZ.out _ _ (by (repeat' (first | (with_reducible assumption) | (with_reducible refine Blk.top _ (by first | rfl | omega | (simp; done) | (simp; omega)) rfl) | (with_reducible refine Blk.alloc ?_ _) | (with_reducible refine Blk.drew ?_) | (with_reducible refine Blk.drewN ?_ _) | (with_reducible refine Blk.far ?_ (by first | omega | (simp; done) | (simp; omega)) _)))))).mono ?_); rintro e w4 ⟨rfl, r4, k4⟩); have O4 := Lib.hid ((O3.out.below (w' := (w3.alloc (.cells Z.toArray 5)).drew) (by (repeat' (first | (with_reducible exact Below.refl _ _) | (with_reducible assumption) | (with_reducible refine Below.drew ?_) | (with_reducible refine below_drewN ?_ _) | (with_reducible refine Below.alloc ?_ ?_ _) | (with_reducible refine Below.setCell ?_ ?_ _) | omega | (simp; done) | (simp; omega))))).rstep k4 r4); have u0 : w4.cell? ⟨w.heap.size, 0, none⟩ = some (.pointer (some ⟨q.d, 0, none⟩)) := O4.out.area.cell 0; have u1 : w4.cell? ⟨w.heap.size, 1, none⟩ = some (.int .i64 (f : Nat)) := O4.out.area.cell 1; have u2 : w4.cell? ⟨w.heap.size, 2, none⟩ = some (.int .i64 (m : Nat)) := O4.out.area.cell 2)
                    | fail "no arm")
                  go_wp2
                  try rw [Exit.noGoto_ret]
                  go_ret2
                  obtain ⟨j, hj⟩ : ∃ j, nx + (t + 1 + j) = m := ⟨m - (nx + (t + 1)), by have := hn.out; omega⟩
                  have e1 := HSK.out (t + 1 + j) (by have := hn.out; omega)
                  rw [hj] at e1
                  have e2 := HF9.out HZN.out j
                  have e3 := HUN.out
                  rw [e1, e2, if_pos HZN.out] at e3
                  rw [e3]
                  exact ROpPost.no HZN.out O4.out.disk O4.out.step
            · have htm : nx + t = m := by have := hn.out; omega
              have e1 := HSK.out t (by omega)
              rw [htm] at e1
              have e3 := HUN.out
              rw [e1, hwk.out, if_neg (by simp)] at e3
              simp only at e3
              have HO := Lib.hid hO
              have hfl := r_flush hO.disk (by have := hO.hs; omega)
              have hmge : ¬ ((n : Int) < m) := by omega
              clear hO
              by_cases hL : fromK D.now f nx t = []
              · rw [if_pos hL] at e3
                have hu0 : u = 0 := by rw [hu.out, hL]; rfl
                have HE3 := Lib.hid e3
                clear e3 hfl hL e1
                subst hu0
                go_wp2
                try rw [Exit.noGoto_ret]
                go_ret2
                rw [HE3.out]
                exact HO.out.yes'
              · rw [if_neg hL] at e3
                have hu0 : 0 < u := by
                  rcases Nat.eq_zero_or_pos u with q9 | q9
                  · rw [hu.out] at q9; exact absurd (List.eq_nil_of_length_eq_zero q9) hL
                  · exact q9
                clear e1 hL
                generalize flushV Dj = FV at *
                obtain ⟨Df, z⟩ := FV
                simp only at e3 hfl
                by_cases hz : z = 0
                · subst hz
                  rw [if_neg (by simp)] at e3
                  have HE3 := Lib.hid e3
                  clear e3
                  go_wp2_with (first
                    | (go_at_call 58; (with_reducible refine (hfl).mono ?_); rintro e w3 ⟨rfl, h3, s3⟩)
                    | fail "no arm")
                  try rw [Exit.noGoto_ret]
                  go_ret2
                  rw [HE3.out]
                  exact (HO.out.rstep s3 h3).yes'
                · rw [if_pos hz] at e3
                  have hne : (z != 0) = true := by rw [bne_iff_ne]; exact hz
                  have HE3 := Lib.hid e3
                  have HZN := Lib.hid hz
                  clear e3 hz
                  go_wp2_with (first
                    | (go_at_call 58; (with_reducible refine (hfl).mono ?_); rintro e w3 ⟨rfl, h3, s3⟩)
                    | fail "no arm")
                  try rw [Exit.noGoto_ret]
                  go_ret2
                  rw [HE3.out]
                  exact ROpPost.no HZN.out h3 (HO.out.step.trans s3)
theorem ropen_any (hd : RDiskS w base q D) (hs : base ≤ w.heap.size) (hm : 1 ≤ m) (hfm : f + m ≤ D.many) (hwt : D.waits.length < 900000) : Calls Tryz.prog 113 #[.agg #[.pointer (some ⟨q.d, 0, none⟩), .int .i64 (f : Nat), .int .i64 (m : Nat)], .int .i64 kind] w (ROpPost w base q f m kind (jOpenV D f m kind)) := by
  by_cases hk : kind < 1 ∨ 255 < kind
  · have : jOpenV D f m kind = (D, 0, 2) := by unfold jOpenV; rw [if_pos hk]
    rw [this]; exact ropen_kind hd hs hk
  · cases ho : D.off with
    | true =>
      have : jOpenV D f m kind = (D, 0, 50) := by unfold jOpenV; rw [if_neg hk, if_pos ho]
      rw [this]; exact ropen_off hd hs (by omega) (by omega) hm hfm ho
    | false => exact ropen_on hd hs (by omega) (by omega) hfm ho hwt
end
end Go.Proofs.YtalmdccgpigppaaGreat
