/- Parts. -/
import Derived.WalkKit
import Derived.WalkSpells
import Derived.WalkLawsBesides
import Derived.Deep.QuietTactic
import Derived.BigQuiet
import Derived.Outline
import Derived.Handy
import Derived.Lib.Hide
import Derived.WalkSmall
import Derived.ChangeSame
import Derived.ProofKit
import Derived.OpenShut
import Derived.Test.YtmeebofhlilcmaaGreatProg
set_option linter.unusedVariables false
set_option linter.unusedSimpArgs false
set_option maxRecDepth 100000
set_option maxHeartbeats 0
namespace Go.Proofs.YtmeebofhlilcmaaGreat
variable {B k:Nat} {w':World}
open Go.RowKit Go.WideShapes Go.ChangeShapes
structure TI where
def I:TI:=⟨⟩
instance:CoeFun TI fun _ => Int→Value:=⟨fun _ => .int .i64⟩
structure TC where
def Ca:TC:=⟨⟩
instance:CoeFun TC fun _ => FuncId→Array Value→World→(Ending→World→Prop)→Prop:=⟨fun _ => Calls Tryz.prog⟩
theorem ae:type_of% @beq_eq_false_iff_ne:=@beq_eq_false_iff_ne
theorem af:type_of% @bne_iff_ne:=@bne_iff_ne
theorem ag:type_of% @List.getD_eq_getElem?_getD:=@List.getD_eq_getElem?_getD
theorem ah:type_of% @decide_eq_false:=@decide_eq_false
theorem aj:type_of% @Nat.le_trans:=@Nat.le_trans
theorem am:type_of% @decide_eq_true:=@decide_eq_true
theorem ap:type_of% @List.getElem?_eq_getElem:=@List.getElem?_eq_getElem
theorem aq:type_of% @decide_eq_true_eq:=@decide_eq_true_eq
theorem au:type_of% @List.take_of_length_le:=@List.take_of_length_le
theorem av:type_of% @Int.toNat_natCast:=@Int.toNat_natCast
theorem aw:type_of% @Nat.lt_or_ge:=@Nat.lt_or_ge
theorem ax:type_of% @Bool.and_eq_true:=@Bool.and_eq_true
theorem ay:type_of% @List.length_map:=@List.length_map
theorem az:type_of% @List.length_append:=@List.length_append
theorem aA:type_of% @List.length_take:=@List.length_take
theorem aB:type_of% @Nat.zero_add:=@Nat.zero_add
theorem aC:type_of% @List.mem_cons_of_mem:=@List.mem_cons_of_mem
theorem aD:type_of% @decide_eq_false_iff_not:=@decide_eq_false_iff_not
theorem aE:type_of% @List.getElem?_eq_none:=@List.getElem?_eq_none
theorem aF:type_of% @List.length_cons:=@List.length_cons
theorem aG:type_of% @List.length_drop:=@List.length_drop
theorem aH:type_of% @Nat.eq_zero_or_pos:=@Nat.eq_zero_or_pos
theorem aI:type_of% @List.drop_zero:=@List.drop_zero
theorem aJ:type_of% @List.length_singleton:=@List.length_singleton
theorem aK:type_of% @List.getElem?_take:=@List.getElem?_take
theorem aL:type_of% @List.getElem?_append_right:=@List.getElem?_append_right
theorem aM:type_of% @List.mem_cons_self:=@List.mem_cons_self
theorem aN:type_of% @List.append_assoc:=@List.append_assoc
theorem aO:type_of% @List.take_succ_eq_append_getElem:=@List.take_succ_eq_append_getElem
theorem aP:type_of% @List.drop_of_length_le:=@List.drop_of_length_le
theorem aQ:type_of% @List.getElem?_append_left:=@List.getElem?_append_left
theorem aR:type_of% @List.drop_eq_getElem_cons:=@List.drop_eq_getElem_cons
theorem dy (w:World)(o:Obj){g:Nat}(h:g=w.heap.size):(w.alloc o).heap[g]?=some o:=by subst h;exact heap_alloc_new w o
theorem jl {k:IntKind}{a b:Int}(h:a=b):Ending.returned (.int k a)=Ending.returned (.int k b):=by rw[h]
theorem j5 {k:IntKind}{a b:Nat}(h:a=b):Ending.returned (.int k (a:Int))=Ending.returned (.int k (b:Int)):=by rw[h]
theorem cV {a b:Bool}(h:a=b):Ending.returned (.bool a)=Ending.returned (.bool b):=by rw[h]
theorem iH {a W:World}(h:Below B a W)(k:Below W.heap.size W w')(hB:B<=W.heap.size):Below B a w':=h.trans (k.mono hB)
theorem bB {C:Nat}{a W:World}(h:Below B a W)(k:Below C W w')(hB:B<=C):Below B a w':=h.trans (k.mono hB)
def Row (w:World)(a:Option Addr)(n:Nat)(f:Nat->Value):Prop :=
 0<n->∃ b o,a=some ⟨b,o,none⟩/\b<w.heap.size/\∀ i,i<n->w.cell? ⟨b,o+i,none⟩=some (f i)
section
variable {w w':World} {a:Option Addr} {n:Nat} {f:Nat→Value}
theorem Row.nil (w:World)(a:Option Addr)(f:Nat->Value):Row w a 0 f:=fun h=>absurd h (by omega)
theorem Row.at_ (h:Row w a n f)(hk:k<n):∃ b o,a=some ⟨b,o,none⟩/\b<w.heap.size/\w.cell? ⟨b,o+k,none⟩=some (f k):=by
 obtain⟨b,o,e,hb,hc⟩:=h (by omega);exact⟨b,o,e,hb,hc k hk⟩
theorem Row.below (h:Row w a n f)(hb:Below B w w')(hB:w.heap.size<=B):Row w' a n f:=fun hn=>by
 obtain⟨b,o,e,hlt,hc⟩:=h hn;have hs:=hb.size;exact⟨b,o,e,by omega,fun i hi=>by rw[hb.cell (p:=⟨b,o+i,none⟩) (by show b<B;omega)];exact hc i hi⟩
theorem Row.congr {g:Nat->Value}(h:Row w a n f)(hg:∀ i,i<n->f i=g i):Row w a n g:=fun hn=>by
 obtain⟨b,o,e,hlt,hc⟩:=h hn;exact⟨b,o,e,hlt,fun i hi=>by rw[<- hg i hi];exact hc i hi⟩
theorem Row.take {m:Nat}(h:Row w a n f)(hm:m<=n):Row w a m f:=fun hn=>by
 obtain⟨b,o,e,hlt,hc⟩:=h (by omega);exact⟨b,o,e,hlt,fun i hi=>hc i (by omega)⟩
theorem Row.cut {cap:Nat}(h:Row w a n f)(hk:k<=n)(hc:n<=cap):Row w (if cap=k then a else a.map (·.add k)) (n - k) (fun i=>f (k+i)):=fun hn=>by
 obtain⟨b,o,rfl,hlt,hcell⟩:=h (by omega);rw[if_neg (by omega)]
 by_cases h0:k=0
 · subst h0;exact⟨b,o,by simp[Addr.add],hlt,fun i hi=>by show _=some (f (0+i));rw[aB];exact hcell i (by omega)⟩
 · exact⟨b,o+k,by simp[Addr.add,h0],hlt,fun i hi=>by rw[Nat.add_assoc];exact hcell _ (by omega)⟩
theorem Row.of_block {g:Nat}{cs:Array Value}{t:TypeId}{fr:Nat × Nat}(hg:w.heap[g]?=some (.cells cs t fr))(o:Nat)(hn:∀ i,i<n->cs[o+i]?=some (f i)):Row w (some ⟨g,o,none⟩) n f :=
 fun _=>⟨g,o,rfl,lt_of_block hg,fun i hi=>by rw[cell_of_row w g (o+i) cs t fr hg];exact hn i hi⟩
theorem Row.of_own {base:Nat}{e:TypeId}{c:Nat}{xs:List Value}(h:w.ownsRow base e 1 (.slice a n c) n xs):Row w a n (fun i=>xs.getD i undef):=fun hn=>by
 rcases h.2 with ⟨hv,h0⟩ | ⟨g,cap,cur,hv,hb,hg,hnc,hm,hs,ht⟩
 · omega
 · injection hv with hv _ _;subst hv;refine⟨g,0,rfl,lt_of_block hg,fun i hi=>?_⟩;rw[aB,cell_of_row w g i cur e (0,0) hg,<- ht];have hi':i<cur.size:=by omega
   show _=some ((List.take (n * 1) cur.toList).getD i undef)
   rw[ag,aK,if_pos (by omega)];simp[hi']
end
def bC (l:List UInt8)(i:Nat):Nat:=(l.getD i 0).toNat
theorem gO (l:List UInt8)(i:Nat):bC l i<256:=(l.getD i 0).toNat_lt
def RB (w:World)(a:Option Addr)(n:Nat)(l:List UInt8):Prop:=l.length=n/\Row w a n (fun i=>.int .u8 (bC l i))
theorem RB.at_ {w:World}{a:Option Addr}{n:Nat}{l:List UInt8}(h:RB w a n l)(hk:k<n):∃ b o,a=some ⟨b,o,none⟩/\b<w.heap.size/\w.cell? ⟨b,o+k,none⟩=some (.int .u8 (bC l k)):=h.2.at_ hk
theorem RB.below {w:World}{a:Option Addr}{n:Nat}{l:List UInt8}(h:RB w a n l)(hb:Below B w w')(hB:w.heap.size<=B):RB w' a n l:=⟨h.1,h.2.below hb hB⟩
theorem mK (l:List UInt8)(k:Nat)(h:k<l.length):l.take (k+1)=l.take k ++ [l.getD k 0]:=by
 rw[aO h,ag];simp[h]
