/- Parts: Base. -/
import Derived.WalkKit
import Derived.WalkSpells
import Derived.WalkLawsBesides
import Derived.Deep.QuietTactic
import Derived.BigQuiet
import Derived.Outline
import Derived.Handy
import Derived.Lib.Hide
import Derived.WalkSmall
import Derived.ChangeSame
import Derived.ProofKit
import Derived.OpenShut
import Derived.Test.YtmeebofhlilcmaaGreatProg
set_option linter.unusedVariables false
set_option linter.unusedSimpArgs false
set_option maxRecDepth 100000
set_option maxHeartbeats 40000000
namespace Go.Proofs.YtmeebofhlilcmaaGreat
open Go.RowKit Go.WideShapes Go.ChangeShapes
theorem qd3 (w:World) (o:Obj) {g:Nat} (h:g=w.heap.size):(w.alloc o).heap[g]?=some o:=by subst h;exact heap_alloc_new w o
theorem ret_int {k:IntKind} {a b:Int} (h:a=b):Ending.returned (.int k a)=Ending.returned (.int k b):=by rw [h]
theorem vg4 {k:IntKind} {a b:Nat} (h:a=b):Ending.returned (.int k (a:Int))=Ending.returned (.int k (b:Int)):=by rw [h]
theorem qg5 {a b:Bool} (h:a=b):Ending.returned (.bool a)=Ending.returned (.bool b):=by rw [h]
theorem ql1 {B:Nat} {a W w':World} (h:Below B a W) (k:Below W.heap.size W w') (hB:B≤W.heap.size):Below B a w':=h.trans (k.mono hB)
theorem qa2 {B C:Nat} {a W w':World} (h:Below B a W) (k:Below C W w') (hB:B≤C):Below B a w':=h.trans (k.mono hB)
def Row (w:World) (a:Option Addr) (n:Nat) (f:Nat→Value):Prop :=
  0<n→∃ b o,a=some ⟨b,o,none⟩∧b<w.heap.size∧∀ i,i<n→w.cell? ⟨b,o+i,none⟩=some (f i)
section
variable {w w':World} {a:Option Addr} {n:Nat} {f:Nat→Value}
theorem Row.nil (w:World) (a:Option Addr) (f:Nat→Value):Row w a 0 f:=fun h => absurd h (by omega)
theorem Row.at_ {k:Nat} (h:Row w a n f) (hk:k<n):∃ b o,a=some ⟨b,o,none⟩∧b<w.heap.size∧w.cell? ⟨b,o+k,none⟩=some (f k):=by
  obtain ⟨b,o,e,hb,hc⟩:=h (by omega);exact ⟨b,o,e,hb,hc k hk⟩
theorem Row.below {B:Nat} (h:Row w a n f) (hb:Below B w w') (hB:w.heap.size≤B):Row w' a n f:=fun hn => by
  obtain ⟨b,o,e,hlt,hc⟩:=h hn;have hs:=hb.size;exact ⟨b,o,e,by omega,fun i hi => by rw [hb.cell (p:=⟨b,o+i,none⟩) (by show b<B;omega)];exact hc i hi⟩
theorem Row.congr {g:Nat→Value} (h:Row w a n f) (hg:∀ i,i<n→f i=g i):Row w a n g:=fun hn => by
  obtain ⟨b,o,e,hlt,hc⟩:=h hn;exact ⟨b,o,e,hlt,fun i hi => by rw [← hg i hi];exact hc i hi⟩
theorem Row.take {m:Nat} (h:Row w a n f) (hm:m≤n):Row w a m f:=fun hn => by
  obtain ⟨b,o,e,hlt,hc⟩:=h (by omega);exact ⟨b,o,e,hlt,fun i hi => hc i (by omega)⟩
theorem Row.cut {k cap:Nat} (h:Row w a n f) (hk:k≤n) (hc:n≤cap):Row w (if cap=k then a else a.map (·.add k)) (n - k) (fun i => f (k+i)):=fun hn => by
  obtain ⟨b,o,rfl,hlt,hcell⟩:=h (by omega);rw [if_neg (by omega)]
  by_cases h0:k=0
  · subst h0;exact ⟨b,o,by simp [Addr.add],hlt,fun i hi => by show _=some (f (0+i));rw [Nat.zero_add];exact hcell i (by omega)⟩
  · exact ⟨b,o+k,by simp [Addr.add,h0],hlt,fun i hi => by rw [Nat.add_assoc];exact hcell _ (by omega)⟩
theorem Row.of_block {g:Nat} {cs:Array Value} {t:TypeId} {fr:Nat × Nat} (hg:w.heap[g]?=some (.cells cs t fr)) (o:Nat) (hn:∀ i,i<n→cs[o+i]?=some (f i)):Row w (some ⟨g,o,none⟩) n f :=
  fun _ => ⟨g,o,rfl,lt_of_block hg,fun i hi => by rw [cell_of_row w g (o+i) cs t fr hg];exact hn i hi⟩
theorem Row.of_own {base:Nat} {e:TypeId} {c:Nat} {xs:List Value} (h:w.ownsRow base e 1 (.slice a n c) n xs):Row w a n (fun i => xs.getD i undef):=fun hn => by
  rcases h.2 with ⟨hv,h0⟩ | ⟨g,cap,cur,hv,hb,hg,hnc,hm,hs,ht⟩
  · omega
  · injection hv with hv _ _;subst hv;refine ⟨g,0,rfl,lt_of_block hg,fun i hi => ?_⟩;rw [Nat.zero_add,cell_of_row w g i cur e (0,0) hg,← ht];have hi':i<cur.size:=by omega
    show _=some ((List.take (n * 1) cur.toList).getD i undef)
    rw [List.getD_eq_getElem?_getD,List.getElem?_take,if_pos (by omega)];simp [hi']
end
def qa4 (l:List UInt8) (i:Nat):Nat:=(l.getD i 0).toNat
theorem qk5 (l:List UInt8) (i:Nat):qa4 l i<256:=(l.getD i 0).toNat_lt
def RB (w:World) (a:Option Addr) (n:Nat) (l:List UInt8):Prop:=l.length=n∧Row w a n (fun i => .int .u8 (qa4 l i))
theorem RB.at_ {w:World} {a:Option Addr} {n k:Nat} {l:List UInt8} (h:RB w a n l) (hk:k<n):∃ b o,a=some ⟨b,o,none⟩∧b<w.heap.size∧w.cell? ⟨b,o+k,none⟩=some (.int .u8 (qa4 l k)):=h.2.at_ hk
theorem RB.below {w w':World} {a:Option Addr} {n B:Nat} {l:List UInt8} (h:RB w a n l) (hb:Below B w w') (hB:w.heap.size≤B):RB w' a n l:=⟨h.1,h.2.below hb hB⟩
theorem qv0 (l:List UInt8) (k:Nat) (h:k<l.length):l.take (k+1)=l.take k ++ [l.getD k 0]:=by
  rw [List.take_succ_eq_append_getElem h,List.getD_eq_getElem?_getD];simp [h]
end Go.Proofs.YtmeebofhlilcmaaGreat
