/- Parts: Do37, RVerA, RVerB, RVerC, CodeF, CodeLawA. -/
import Derived.Test.YtpmkpckldnnigaaGreatPr50
import Derived.Test.YtpmkpckldnnigaaGreatPr31
import Derived.Test.YtpmkpckldnnigaaGreatPr45
import Derived.Test.YtpmkpckldnnigaaGreatPr04
import Derived.Deep.DeepCutAuto
import Derived.Deep.CutBlock
import Derived.Test.YtpmkpckldnnigaaGreatPr52
import Derived.Test.YtpmkpckldnnigaaGreatPr01
import Derived.Test.YtpmkpckldnnigaaGreatPr08
namespace Go.Proofs.YtpmkpckldnnigaaGreat
open Go.RowKit Go.WideShapes Go.ChangeShapes Go.Deep Go.Joins
set_option linter.unusedVariables false
set_option linter.unusedSimpArgs false
section
variable {H : Type} {enc : TypeId × Value → H} {w : World} {base b0 : Nat} {held : Bool} {r : Reach} {v : Value} {d : DataW H} {ps : List MemPlace}
set_option maxRecDepth 100000 in
theorem args_dos37 (hval : Value.okWide Tryz.prog w r b0 28 v) (hd : DataW.Trod enc Tryz.prog w base (fun _ => true) held 28 v d ps) :
    ∃ A n c l, v = .slice A n c ∧ DosW w A n l ∧ n ≤ c ∧ c ≤ maxLen := by
  obtain ⟨A, n, c, rfl, hn, hc, hat⟩ := open_structs (k := 4) Tryz.underlying28 Tryz.underlying55 (by kernel_rfl) (by kernel_rfl) rfl (by omega) hval hd
  have hx : ∀ i, i < n → ∃ x : DoW, ∃ b o C q e B m c, A = some ⟨b, o, none⟩ ∧ b < w.heap.size ∧ w.cell? ⟨b, o + i * 4 + 0, none⟩ = some (.int .i64 x.kind) ∧ w.cell? ⟨b, o + i * 4 + 1, none⟩ = some (.int .i64 x.n) ∧ w.cell? ⟨b, o + i * 4 + 2, none⟩ = some (.slice C q e) ∧ w.cell? ⟨b, o + i * 4 + 3, none⟩ = some (.slice B m c) ∧
      RI w C q x.l ∧ q ≤ e ∧ e ≤ maxLen ∧ RB w B m x.b ∧ m ≤ c ∧ c ≤ maxLen ∧ (-9223372036854775808 ≤ x.kind ∧ x.kind ≤ 9223372036854775807) ∧ (-9223372036854775808 ≤ x.n ∧ x.n ≤ 9223372036854775807) ∧ IntOk x.l := by
    intro i hi
    obtain ⟨b, o, vs, hA, hb, hl, hcell, fuel, hf⟩ := hat i hi
    obtain ⟨u0, y0, e0, t0⟩ := hf 0 _ rfl
    obtain ⟨u1, y1, e1, t1⟩ := hf 1 _ rfl
    obtain ⟨u2, y2, e2, t2⟩ := hf 2 _ rfl
    obtain ⟨u3, y3, e3, t3⟩ := hf 3 _ rfl
    obtain ⟨z0, hz0, _, hw0⟩ := DataW.trod_int Tryz.underlying3 t0
    obtain ⟨z1, hz1, _, hw1⟩ := DataW.trod_int Tryz.underlying3 t1
    have hz0 : u0 = .int .i64 z0 := by simpa using hz0
    have hz1 : u1 = .int .i64 z1 := by simpa using hz1
    subst hz0 hz1
    obtain ⟨C, q, c2, li, rfl, r2, k2, m2, hin⟩ := trod_ints Tryz.underlying23 Tryz.underlying3 (by kernel_rfl) t2
    obtain ⟨B, m, c', l, rfl, r1, k1, m1⟩ := trod_bytes Tryz.underlying22 Tryz.underlying5 (by kernel_rfl) t3
    exact ⟨⟨z0, z1, li, l⟩, b, o, C, q, c2, B, m, c', hA, hb, (hcell 0 (by omega)).trans e0, (hcell 1 (by omega)).trans e1, (hcell 2 (by omega)).trans e2, (hcell 3 (by omega)).trans e3, r2, k2, m2, r1, k1, m1, bounds_i64 hw0, bounds_i64 hw1, intOk_of hin⟩
  obtain ⟨l, hl, hp⟩ := list_of hx
  exact ⟨A, n, c, l, rfl, ⟨hl, hp⟩, hn, hc⟩
end
end Go.Proofs.YtpmkpckldnnigaaGreat
namespace Go.Proofs.YtpmkpckldnnigaaGreat
open Go.RowKit
set_option linter.unusedVariables false
set_option linter.unusedSimpArgs false
section
variable {x : PA} {p : PV} {w : World} {i : Nat}
end
end Go.Proofs.YtpmkpckldnnigaaGreat
namespace Go.Proofs.YtpmkpckldnnigaaGreat
open Go.RowKit
set_option linter.unusedVariables false
set_option linter.unusedSimpArgs false
section
variable {x : PA} {p : PV} {w : World} {i : Nat}
end
end Go.Proofs.YtpmkpckldnnigaaGreat
namespace Go.Proofs.YtpmkpckldnnigaaGreat
open Go.RowKit
set_option linter.unusedVariables false
set_option linter.unusedSimpArgs false
section
variable {x : PA} {p : PV} {w : World}
end
end Go.Proofs.YtpmkpckldnnigaaGreat
namespace Go.Proofs.YtpmkpckldnnigaaGreat
open Go.RowKit

def sameB (p q : PV) : Bool := decide (p.ins = q.ins) && (decide (p.outs = q.outs) && ((p.regs == q.regs) && (decide (p.cells = q.cells) && decide (p.code = q.code))))
end Go.Proofs.YtpmkpckldnnigaaGreat
namespace Go.Proofs.YtpmkpckldnnigaaGreat
open Go.RowKit

theorem ProgAll.wf {p : PV} (h : ProgAll p) : ProgWf p :=
  ⟨fun x hx => (h.cells x hx).2, fun x hx => ⟨(h.code x hx).2.1.2, (h.code x hx).2.2.1.2, (h.code x hx).2.2.2.1.2, (h.code x hx).2.2.2.2.1, (h.code x hx).2.2.2.2.2⟩⟩
end Go.Proofs.YtpmkpckldnnigaaGreat
