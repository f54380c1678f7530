/- Parts. -/
import Derived.WalkKit
import Derived.WalkSpells
import Derived.WalkLawsBesides
import Derived.Deep.QuietTactic
import Derived.BigQuiet
import Derived.Outline
import Derived.Handy
import Derived.Lib.Hide
import Derived.WalkSmall
import Derived.ChangeSame
import Derived.ProofKit
import Derived.OpenShut
import Derived.Test.YtmeebofhlilcmaaGreatProg
import Derived.Maps.AppendAt
import Derived.Deep.AppendLies
import Derived.OwnWalk
import Derived.Laws.CopyOwn
import Derived.Laws.CopyRow
import Derived.Laws.Rows
import Derived.Deep.Draws
import Derived.ChangeKeysEq
import Derived.Laws.StructEq
import Derived.Deep.RegionHeld3
set_option linter.unusedVariables false
set_option linter.unusedSimpArgs false
set_option maxRecDepth 100000
set_option maxHeartbeats 0
namespace Go.Proofs.YtmeebofhlilcmaaGreat
variable {g b B k m base c n size bytes base' N off dLen dCap:Nat} {w' w:World} {t e ty dT sT:TypeId} {xs l cs:List Value} {P:Program} {z v a0 a1 a2 a3 a4 a5 a6 a7 a8:Value} {A dp:Option Addr} {o:Oper} {a:Act} {s x d:Operand} {E:Prop} {α:Type}
open Go.RowKit Go.WideShapes Go.ChangeShapes
structure TI where
def I:TI:=⟨⟩
instance:CoeFun TI fun _ => Int→Value:=⟨fun _ => .int .i64⟩
structure TC where
def Ca:TC:=⟨⟩
instance:CoeFun TC fun _ => FuncId→Array Value→World→(Ending→World→Prop)→Prop:=⟨fun _ => Calls Tryz.prog⟩
theorem ae:type_of% @Nat.le_trans:=@Nat.le_trans
theorem af:type_of% @beq_eq_false_iff_ne:=@beq_eq_false_iff_ne
theorem ag:type_of% @bne_iff_ne:=@bne_iff_ne
theorem ah:type_of% @List.getD_eq_getElem?_getD:=@List.getD_eq_getElem?_getD
theorem aj:type_of% @decide_eq_false:=@decide_eq_false
theorem am:type_of% @decide_eq_true:=@decide_eq_true
theorem ap:type_of% @List.getElem?_eq_getElem:=@List.getElem?_eq_getElem
theorem aq:type_of% @decide_eq_true_eq:=@decide_eq_true_eq
theorem au:type_of% @List.take_of_length_le:=@List.take_of_length_le
theorem av:type_of% @Bool.and_eq_true:=@Bool.and_eq_true
theorem aw:type_of% @List.length_append:=@List.length_append
theorem ax:type_of% @Int.toNat_natCast:=@Int.toNat_natCast
theorem ay:type_of% @Nat.lt_or_ge:=@Nat.lt_or_ge
theorem az:type_of% @List.length_map:=@List.length_map
theorem aA:type_of% @List.length_take:=@List.length_take
theorem aB:type_of% @List.mem_cons_of_mem:=@List.mem_cons_of_mem
theorem aC:type_of% @List.mem_cons_self:=@List.mem_cons_self
theorem aD:type_of% @Nat.zero_add:=@Nat.zero_add
theorem aE:type_of% @decide_eq_false_iff_not:=@decide_eq_false_iff_not
theorem aF:type_of% @List.length_cons:=@List.length_cons
theorem aG:type_of% @List.drop_zero:=@List.drop_zero
theorem aH:type_of% @List.length_drop:=@List.length_drop
theorem aI:type_of% @Nat.eq_zero_or_pos:=@Nat.eq_zero_or_pos
theorem aJ:type_of% @List.length_singleton:=@List.length_singleton
theorem aK:type_of% @List.getElem?_eq_none:=@List.getElem?_eq_none
theorem aL:type_of% @List.getElem?_take:=@List.getElem?_take
theorem aM:type_of% @List.getElem?_append_right:=@List.getElem?_append_right
theorem aN:type_of% @List.append_assoc:=@List.append_assoc
theorem aO:type_of% @List.take_succ_eq_append_getElem:=@List.take_succ_eq_append_getElem
theorem aP:type_of% @List.drop_of_length_le:=@List.drop_of_length_le
theorem aQ:type_of% @List.drop_eq_getElem_cons:=@List.drop_eq_getElem_cons
theorem aR:type_of% @List.getElem?_append_left:=@List.getElem?_append_left
theorem dP (w:World)(o:Obj)(h:g=w.heap.size):(w.alloc o).heap[g]?=some o:=by subst h;exact heap_alloc_new w o
theorem ret_int {k:IntKind}{a b:Int}(h:a=b):Ending.returned (.int k a)=Ending.returned (.int k b):=by rw[h]
theorem kE {k:IntKind}{a:Nat}(h:a=b):Ending.returned (.int k (a:Int))=Ending.returned (.int k (b:Int)):=by rw[h]
theorem df {a b:Bool}(h:a=b):Ending.returned (.bool a)=Ending.returned (.bool b):=by rw[h]
theorem iO {a W:World}(h:Below B a W)(k:Below W.heap.size W w')(hB:B<=W.heap.size):Below B a w':=h.trans (k.mono hB)
theorem bO {C:Nat}{a W:World}(h:Below B a W)(k:Below C W w')(hB:B<=C):Below B a w':=h.trans (k.mono hB)
def Row (w:World)(a:Option Addr)(n:Nat)(f:Nat->Value):Prop :=
 0<n->∃ b o,a=some ⟨b,o,none⟩/\b<w.heap.size/\∀ i,i<n->w.cell? ⟨b,o+i,none⟩=some (f i)
section
variable {w w':World} {a:Option Addr} {n:Nat} {f:Nat→Value}
theorem Row.nil (w:World)(a:Option Addr)(f:Nat->Value):Row w a 0 f:=fun h=>absurd h (by omega)
theorem Row.at_ (h:Row w a n f)(hk:k<n):∃ b o,a=some ⟨b,o,none⟩/\b<w.heap.size/\w.cell? ⟨b,o+k,none⟩=some (f k):=by
 obtain⟨b,o,e,hb,hc⟩:=h (by omega);exact⟨b,o,e,hb,hc k hk⟩
theorem Row.below (h:Row w a n f)(hb:Below B w w')(hB:w.heap.size<=B):Row w' a n f:=fun hn=>by
 obtain⟨b,o,e,hlt,hc⟩:=h hn;have hs:=hb.size;exact⟨b,o,e,by omega,fun i hi=>by rw[hb.cell (p:=⟨b,o+i,none⟩) (by show b<B;omega)];exact hc i hi⟩
theorem Row.congr {g:Nat->Value}(h:Row w a n f)(hg:∀ i,i<n->f i=g i):Row w a n g:=fun hn=>by
 obtain⟨b,o,e,hlt,hc⟩:=h hn;exact⟨b,o,e,hlt,fun i hi=>by rw[<- hg i hi];exact hc i hi⟩
theorem Row.take (h:Row w a n f)(hm:m<=n):Row w a m f:=fun hn=>by
 obtain⟨b,o,e,hlt,hc⟩:=h (by omega);exact⟨b,o,e,hlt,fun i hi=>hc i (by omega)⟩
theorem Row.cut {cap:Nat}(h:Row w a n f)(hk:k<=n)(hc:n<=cap):Row w (if cap=k then a else a.map (·.add k)) (n - k) (fun i=>f (k+i)):=fun hn=>by
 obtain⟨b,o,rfl,hlt,hcell⟩:=h (by omega);rw[if_neg (by omega)]
 by_cases h0:k=0
 · subst h0;exact⟨b,o,by simp[Addr.add],hlt,fun i hi=>by show _=some (f (0+i));rw[aD];exact hcell i (by omega)⟩
 · exact⟨b,o+k,by simp[Addr.add,h0],hlt,fun i hi=>by rw[Nat.add_assoc];exact hcell _ (by omega)⟩
theorem Row.of_block {cs:Array Value}{fr:Nat × Nat}(hg:w.heap[g]?=some (.cells cs t fr))(o:Nat)(hn:∀ i,i<n->cs[o+i]?=some (f i)):Row w (some ⟨g,o,none⟩) n f :=
 fun _=>⟨g,o,rfl,lt_of_block hg,fun i hi=>by rw[cell_of_row w g (o+i) cs t fr hg];exact hn i hi⟩
theorem Row.of_own (h:w.ownsRow base e 1 (.slice a n c) n xs):Row w a n (fun i=>xs.getD i undef):=fun hn=>by
 rcases h.2 with ⟨hv,h0⟩ | ⟨g,cap,cur,hv,hb,hg,hnc,hm,hs,ht⟩
 · omega
 · injection hv with hv _ _;subst hv;refine⟨g,0,rfl,lt_of_block hg,fun i hi=>?_⟩;rw[aD,cell_of_row w g i cur e (0,0) hg,<- ht];have hi':i<cur.size:=by omega
   show _=some ((List.take (n * 1) cur.toList).getD i undef)
   rw[ah,aL,if_pos (by omega)];simp[hi']
end
def bx (l:List UInt8)(i:Nat):Nat:=(l.getD i 0).toNat
theorem ij (l:List UInt8)(i:Nat):bx l i<256:=(l.getD i 0).toNat_lt
def RB (w:World)(a:Option Addr)(n:Nat)(l:List UInt8):Prop:=l.length=n/\Row w a n (fun i=>.int .u8 (bx l i))
theorem RB.at_ {a:Option Addr}{l:List UInt8}(h:RB w a n l)(hk:k<n):∃ b o,a=some ⟨b,o,none⟩/\b<w.heap.size/\w.cell? ⟨b,o+k,none⟩=some (.int .u8 (bx l k)):=h.2.at_ hk
theorem RB.below {a:Option Addr}{l:List UInt8}(h:RB w a n l)(hb:Below B w w')(hB:w.heap.size<=B):RB w' a n l:=⟨h.1,h.2.below hb hB⟩
theorem mY (l:List UInt8)(k:Nat)(h:k<l.length):l.take (k+1)=l.take k ++ [l.getD k 0]:=by
 rw[aO h,ah];simp[h]
open Go.RowKit
def dQ (P:Program)(t e:TypeId)(z:Value)(size bytes:Nat):Prop :=
 P.underlying t=some (.slice e)/\(∃ i,P.info? e=some i/\i.zero=some z/\i.size=size/\i.bytes=bytes)/\z.cells.size=size/\0<size
theorem dQ.mk' (h:P.underlying t=some (.slice e))
 (hi:(P.info? e).map (fun i=>(i.zero,i.size,i.bytes))=some (some z,size,bytes)) (hz:z.cells.size=size) (h0:0<size):dQ P t e z size bytes:=by
 obtain⟨i,h1,h2,h3,h4⟩:=info_parts hi;exact⟨h,⟨i,h1,h2,h3,h4⟩,hz,h0⟩
theorem lR (h:w.ownsRow base e size v n xs) :
 ∃ A c,v=.slice A n c/\n<=c/\c<=maxLen/\(∀ g,A.map (·.block)=some g->base<=g/\g<w.heap.size):=by
 rcases h.2 with ⟨rfl,rfl⟩ | ⟨g,cap,cur,rfl,hb,hg,hnc,hm,_⟩
 · exact⟨none,0,rfl,Nat.le_refl _,by unfold maxLen;omega,fun g hg=>by cases hg⟩
 · exact⟨_,cap,rfl,hnc,hm,fun g' hg'=>by injection hg' with hg';subst hg';exact⟨hb,lt_of_block hg⟩⟩
def RowL (w:World)(A:Option Addr)(n size:Nat)(xs:List Value):Prop:=xs.length=n * size/\Row w A (n * size) (fun i=>xs.getD i undef)
theorem RowL.at_add (h:RowL w A n size xs){ad:Addr}(hA:A=some ad):∀ j u,xs[j]?=some u->w.cell? (ad.add j)=some u:=by
 intro j u hu;have hj:j<xs.length:=by rcases ay j xs.length with h | h;exact h;rw[aK h] at hu;cases hu
 have hj':j<n * size:=by rw[<- h.1];exact hj
 obtain⟨b,o,e,hb,hc⟩:=h.2 (by omega);rw[hA] at e;injection e with e;subst e;have:_=some (xs.getD j undef):=hc j hj';rw[ah,hu] at this;have hadd:(⟨b,o,none⟩:Addr).add j=⟨b,o+j,none⟩:=by unfold Addr.add;split <;> simp_all
 rw[hadd];exact this
section
variable {P:Program} (w:World)
theorem run_append_of_nil (base:Nat)(t ty e:TypeId)(z:Value)(size bytes:Nat)(hE:dQ P t e z size bytes)
 (v:Value) (n:Nat) (xs:List Value) (hown:w.ownsRow base e size v n xs) (c:Nat):(Builtin.append_ #[t,t] ty #[v,.slice none 0 c]).run P w=.ok v w:=by
 obtain⟨ht,⟨i,hi,_⟩,_⟩:=hE;rcases hown.2 with ⟨rfl,rfl⟩ | ⟨g,cap,cur,rfl,_,_,hnc,_⟩
 · simp[Builtin.append_,run_underlying ht,sizeOf,typeInfo,hi,Builtin.lenOf,Builtin.firstCells]
 · simp[Builtin.append_,run_underlying ht,sizeOf,typeInfo,hi,Builtin.lenOf,Builtin.firstCells,hnc,storeCells]
theorem oT (base:Nat)(t ty e:TypeId)(z:Value)(size bytes:Nat)(hE:dQ P t e z size bytes)
 (v:Value) (n:Nat) (xs:List Value) (hown:w.ownsRow base e size v n xs)
 (A:Option Addr) (m c:Nat) (news:List Value) (hr:RowL w A m size news) (h1:∀ u ∈ news,u.oneCell'=true)
 (h63:n+m<=maxLen) (hbytes:(n+m) * bytes<=140737488355328) (hbase:base<=w.heap.size) :
 ∃ v' w',(Builtin.append_ #[t,t] ty #[v,.slice A m c]).run P w=.ok v' w'/\w'.ownsRow base e size v' (n+m) (xs ++ news)/\w.grownBy w' v.ownBlock /\
   (v'.ownBlock=v.ownBlock\/v'.ownBlock=some w.heap.size):=by
 have hE':=hE;obtain⟨ht,⟨i,hi,hz,hsize,hby⟩,hzs,hsz⟩:=hE;rcases A with _ | ad
 · have hm:m=0:=by
    rcases aI m with h0 | h0
    · exact h0
    · obtain⟨b,o,h,_⟩:=hr.2 (Nat.mul_pos h0 hsz)
      cases h
   subst hm;have hn:news=[]:=List.eq_nil_of_length_eq_zero (by simpa using hr.1);subst hn;exact⟨v,w,run_append_of_nil w base t ty e z size bytes hE' v n xs hown c,by simpa using hown,World.grownBy.refl w _,.inl rfl⟩
 · obtain⟨v',w',hrun,h2,h3,_,h5⟩:=run_append_own_at (P:=P) w base t ty e i z size bytes ht hi hz hsize hby hzs hsz v n xs hown ad m c news hr.1 (hr.at_add rfl) h1 h63 hbytes hbase;exact⟨v',w',hrun,h2,h3,h5⟩
end
theorem oU (A:Option Addr):A.map (fun x=>x.add 0)=A:=by cases A <;> simp[Addr.add]
theorem jM (hE:dQ P t e z size bytes)(A:Option Addr)(len cap n:Nat)(h:n<=cap)(W:World) :
 (Instr.slice t (.slice A len cap) none (some (I (n:Int))) none).run P W=.ok (.slice A n cap) W:=by
 obtain⟨ht,⟨i,hi,_,hs,_⟩,_⟩:=hE;have hb:(0:Int)<=(n:Int)/\(n:Int)<=(cap:Int):=by omega
 simp[Instr.slice,run_underlying ht,Instr.sliceBounds,Instr.sliceBound,hb,sizeOf,typeInfo,hi,asIntOf,oU];intro hlt;omega
theorem kF (hE:dQ P t e z size bytes)(A:Option Addr)(len cap k:Nat)(h:k<=len)(W:World) :
 (Instr.slice t (.slice A len cap) (some (I (k:Int))) none none).run P W=.ok (.slice (if cap=k then A else A.map (·.add (k * size))) (len - k) (cap - k)) W:=by
 obtain⟨ht,⟨i,hi,_,hs,_⟩,_⟩:=hE;have hb:(0:Int)<=(k:Int)/\(k:Int)<=(len:Int):=by omega
 simp[Instr.slice,run_underlying ht,Instr.sliceBounds,Instr.sliceBound,hb,sizeOf,typeInfo,hi,asIntOf,hs];intro hlt;omega
section
variable {α:Type}
def Rd (enc:α->Value)(w:World)(A:Option Addr)(n:Nat)(l:List α):Prop:=l.length=n/\Row w A n (fun i=>(l.map enc).getD i undef)
def Ow (enc:α->Value)(w:World)(base:Nat)(e:TypeId)(A:Option Addr)(n c:Nat)(l:List α):Prop:=l.length=n/\w.ownsRow base e 1 (.slice A n c) n (l.map enc)
variable {enc:α→Value} {w w':World} {A B:Option Addr} {n m c d base:Nat} {e:TypeId} {l k:List α}
theorem Ow.rd (h:Ow enc w base e A n c l):Rd enc w A n l:=⟨h.1,Row.of_own h.2⟩
theorem Rd.below (h:Rd enc w A n l)(hb:Below b w w')(hB:w.heap.size<=b):Rd enc w' A n l:=⟨h.1,h.2.below hb hB⟩
theorem Rd.rowL (h:Rd enc w A n l):RowL w A n 1 (l.map enc):=⟨by rw[az,h.1];omega,by rw[Nat.mul_one];exact h.2⟩
theorem ik (l:List α)(i:Nat)(h:i<l.length):(l.map enc).getD i undef=enc l[i]:=by simp[ah,h]
theorem Rd.of_block {cs:Array Value}{fr:Nat × Nat}(hg:w.heap[g]?=some (.cells cs t fr)){l:List α}(h:cs.toList=l.map enc):Rd enc w (some ⟨g,0,none⟩) l.length l :=
 ⟨rfl,Row.of_block hg 0 fun i hi=>by
  rw[aD,<- Array.getElem?_toList,h,ah,ap (by simpa using hi)];rfl⟩
theorem Ow.new (w:World)(e:TypeId)(cs:Array Value)(l:List α)(h:cs.toList=l.map enc)(hm:l.length<=maxLen) :
 Ow enc (w.alloc (.cells cs e)) w.heap.size e (some ⟨w.heap.size,0,none⟩) l.length l.length l :=
 ⟨rfl,by
  have:=World.ownsRow_lit (base:=w.heap.size) (e:=e) (size:=1) w cs l.length (Nat.le_refl _) hm (by rw[<- Array.length_toList,h];simp)
  rwa [h] at this⟩
theorem Ow.lt (h:Ow enc w base e A n c l):∀ g,A.map (·.block)=some g->base<=g/\g<w.heap.size:=by
 intro g hg
 cases A with
 | none=>cases hg
 | some a=>exact h.2.lt g (by simpa [Value.ownBlock] using hg)
theorem Ow.cap (h:Ow enc w base e A n c l):n<=c/\c<=maxLen:=by
 obtain⟨A',c',e',h1,h2,_⟩:=lR h.2;injection e' with _ _ e';subst e';exact⟨h1,h2⟩
theorem Ow.below (h:Ow enc w base e A n c l)(hb:Below b w w')(hB:w.heap.size<=b):Ow enc w' base e A n c l:=by
 refine⟨h.1,h.2.1,?_⟩;rcases h.2.2 with hn | ⟨g,cap,cur,hv,hbg,hg,rest⟩
 · exact .inl hn
 · exact .inr ⟨g,cap,cur,hv,hbg,by rw[hb.block g (Nat.lt_of_lt_of_le (lt_of_block hg) hB)];exact hg,rest⟩
theorem Ow.rebase (h:Ow enc w base e A n c l)(hb:base'<=base):Ow enc w base' e A n c l:=by
 refine⟨h.1,h.2.1,?_⟩;rcases h.2.2 with hn | ⟨g,cap,cur,hv,hbg,rest⟩
 · exact .inl hn
 · exact .inr ⟨g,cap,cur,hv,ae hb hbg,rest⟩
theorem Ow.addr (h:Ow enc w base e A n c l)(h0:0<n):∃ g,A=some ⟨g,0,none⟩/\base<=g/\g<w.heap.size:=by
 rcases h.2.2 with ⟨_,hn⟩ | ⟨g,cap,cur,hv,hb,hg,_⟩
 · omega
 · injection hv with hv _ _;exact⟨g,hv,hb,lt_of_block hg⟩
theorem Ow.free (h:Ow enc w base e (some ⟨g,0,none⟩) n c l)(i:Nat):w.frozen? ⟨g,i,none⟩=false:=h.2.frozenAt i
theorem Ow.set (h:Ow enc w base e (some ⟨g,0,none⟩) n c l)(i:Nat)(x:α)(u:Value)(hu:u=enc x):Ow enc (w.setCell ⟨g,i,none⟩ u) base e (some ⟨g,0,none⟩) n c (l.set i x) :=
 ⟨by rw[List.length_set];exact h.1,by subst hu;rw[List.map_set];exact (h.2.stored i (enc x)).1⟩
theorem Ow.nil (enc:α->Value)(w:World)(base:Nat)(e:TypeId):Ow enc w base e none 0 0 []:=⟨rfl,World.ownsRow_nil w base e 1⟩
theorem wp_app {K:Act->World->Prop}{Q:Exit->Act->World->Prop}{L:List α}
 (ho:o.op=.call { callee:=.builtin .append,args:=#[s,x],argTypes:=#[t,t] })
 (hE:dQ P t e z 1 bytes) (hone:∀ x,(enc x).oneCell'=true)
 (hs:a.eval s=.slice A n c) (hown:Ow enc w base e A n c l)
 (hx:a.eval x=.slice B m d) (hr:Rd enc w B m k)
 (hN:n+m=N) (hL:l ++ k=L) (h63:N<=maxLen) (hbytes:N * bytes<=140737488355328) (hbase:base<=w.heap.size)
 (h:∀ A' c' w',Ow enc w' base e A' N c' L->w.grownBy w' (A.map (·.block))->(A'.map (·.block)=A.map (·.block)\/A'.map (·.block)=some w.heap.size)->Below base w w'->K (a.put o.dst (.slice A' N c')) w') :
 o.wp P a w K Q:=by
 subst hN hL;obtain⟨v',w',hrun,h2,h3,h4⟩:=oT (P:=P) w base t o.type e z 1 bytes hE _ n _ hown.2 B m d _ hr.rowL (by
  intro u hu;obtain⟨y,_,rfl⟩:=List.mem_map.1 hu;exact hone y) h63 hbytes hbase
 unfold Oper.wp execOp;simp only[ho,resolve,invoke,builtin,Sem.run_bind,Sem.run_pure,Result.andThen_ok,List.map_toArray,List.map_cons,List.map_nil,hs,hx,hrun];obtain⟨A',c',rfl,_⟩:=lR h2;have hA:(Value.slice A n c).ownBlock=A.map (·.block):=by cases A <;> rfl
 have hA':(Value.slice A' (n+m) c').ownBlock=A'.map (·.block):=by cases A' <;> rfl
 rw[hA] at h3 h4;rw[hA'] at h4;exact h A' c' w' ⟨by rw[aw,hown.1,hr.1],by rw[List.map_append];exact h2⟩ h3 h4 ((Below.refl _ _).grown h3 hbase (fun g hg=>(hown.lt g hg).1))
theorem dR {ops:Array Oper}{rest:List Oper}{Q:Exit->Act->World->Prop}{L:List α}(hgd:o.guard=none)
 (ho:o.op=.call { callee:=.builtin .append,args:=#[s,x],argTypes:=#[t,t] })
 (hE:dQ P t e z 1 bytes) (hone:∀ x,(enc x).oneCell'=true)
 (hs:a.eval s=.slice A n c) (hown:Ow enc w base e A n c l)
 (hx:a.eval x=.slice B m d) (hr:Rd enc w B m k)
 (hN:n+m=N) (hL:l ++ k=L) (h63:N<=maxLen) (hbytes:N * bytes<=140737488355328) (hbase:base<=w.heap.size)
 (h:∀ A' c' w',Ow enc w' base e A' N c' L->w.grownBy w' (A.map (·.block))->(A'.map (·.block)=A.map (·.block)\/A'.map (·.block)=some w.heap.size)->Below base w w'->wpList P ops Q rest (a.put o.dst (.slice A' N c')) w') :
 wpList P ops Q (o :: rest) a w :=
 wpList_plain hgd fun _ hK=>wp_app ho hE hone hs hown hx hr hN hL h63 hbytes hbase fun A' c' w' h1 h2 h3 h4=>hK _ _ (h A' c' w' h1 h2 h3 h4)
theorem eF {ops:Array Oper}{K:Act->World->Prop}{Q:Exit->Act->World->Prop}{L:List α}(hgd:o.guard=none)
 (ho:o.op=.call { callee:=.builtin .append,args:=#[s,x],argTypes:=#[t,t] })
 (hE:dQ P t e z 1 bytes) (hone:∀ x,(enc x).oneCell'=true)
 (hs:a.eval s=.slice A n c) (hown:Ow enc w base e A n c l)
 (hx:a.eval x=.slice B m d) (hr:Rd enc w B m k)
 (hN:n+m=N) (hL:l ++ k=L) (h63:N<=maxLen) (hbytes:N * bytes<=140737488355328) (hbase:base<=w.heap.size)
 (h:∀ A' c' w',Ow enc w' base e A' N c' L->w.grownBy w' (A.map (·.block))->(A'.map (·.block)=A.map (·.block)\/A'.map (·.block)=some w.heap.size)->Below base w w'->K (a.put o.dst (.slice A' N c')) w') :
 if Region.wanted o (yielded ops a.tmps)=true then Oper.wp P o a w K Q else E:=by
 have hw:Region.wanted o (yielded ops a.tmps)=true:=by simp[Region.wanted,hgd]
 rw[if_pos hw];exact wp_app ho hE hone hs hown hx hr hN hL h63 hbytes hbase h
end
def bv (b:UInt8):Value:=.int .u8 (b.toNat:Int)
def iv (n:Int):Value:=I n
theorem dg (b:UInt8):(bv b).oneCell'=true:=rfl
theorem gq (b:Int):(iv b).oneCell'=true:=rfl
theorem bv_getD (l:List UInt8)(i:Nat)(h:i<l.length):(l.map bv).getD i undef=.int .u8 (bx l i):=by
 rw[ik l i h];unfold bv bx;simp[ah,h]
theorem RB.rd {l:List UInt8}(h:RB w A n l):Rd bv w A n l:=⟨h.1,h.2.congr fun i hi=>(bv_getD l i (by rw[h.1];exact hi)).symm⟩
theorem Rd.rb {l:List UInt8}(h:Rd bv w A n l):RB w A n l:=⟨h.1,h.2.congr fun i hi=>bv_getD l i (by rw[h.1];exact hi)⟩
abbrev OB (w:World)(base:Nat)(e:TypeId)(A:Option Addr)(n c:Nat)(l:List UInt8):Prop:=Ow bv w base e A n c l
theorem RB.of_block {cs:Array Value}{fr:Nat × Nat}(hg:w.heap[g]?=some (.cells cs t fr)){l:List UInt8}(h:cs.toList=l.map bv):RB w (some ⟨g,0,none⟩) l.length l:=(Rd.of_block hg h).rb
def bj (l:List Int)(i:Nat):Int:=l.getD i 0
def RI (w:World)(a:Option Addr)(n:Nat)(l:List Int):Prop:=l.length=n/\Row w a n (fun i=>I (bj l i))
theorem iv_getD (l:List Int)(i:Nat)(h:i<l.length):(l.map iv).getD i undef=I (bj l i):=by
 rw[ik l i h];unfold iv bj;simp[ah,h]
theorem RI.rd {l:List Int}(h:RI w A n l):Rd iv w A n l:=⟨h.1,h.2.congr fun i hi=>(iv_getD l i (by rw[h.1];exact hi)).symm⟩
theorem Rd.ri {l:List Int}(h:Rd iv w A n l):RI w A n l:=⟨h.1,h.2.congr fun i hi=>iv_getD l i (by rw[h.1];exact hi)⟩
theorem RI.at_ {a:Option Addr}{l:List Int}(h:RI w a n l)(hk:k<n):∃ b o,a=some ⟨b,o,none⟩/\b<w.heap.size/\w.cell? ⟨b,o+k,none⟩=some (I (bj l k)):=h.2.at_ hk
theorem RI.below {a:Option Addr}{l:List Int}(h:RI w a n l)(hb:Below B w w')(hB:w.heap.size<=B):RI w' a n l:=⟨h.1,h.2.below hb hB⟩
theorem RB.less {l:List UInt8}(h:RB w A n l)(hm:m<=n):RB w A m (l.take m) :=
 ⟨by rw[aA,h.1];omega,(h.2.take hm).congr fun i hi=>by
  unfold bx;simp[ah,hi]⟩
theorem cH:dQ Tryz.prog 27 5 (.int .u8 0) 1 1:=dQ.mk' Tryz.underlying27 (by kernel_rfl) rfl (by decide)
theorem fF:dQ Tryz.prog 22 3 (I 0) 1 8:=dQ.mk' Tryz.underlying22 (by kernel_rfl) rfl (by decide)
def Blk (w:World)(g:Nat)(t:TypeId)(cs:List Value):Prop:=w.heap[g]?=some (.cells cs.toArray t (0,0))
section
variable {w w':World} {g:Nat} {t:TypeId} {cs:List Value}
theorem Blk.lt (h:Blk w g t cs):g<w.heap.size:=lt_of_block h
theorem Blk.cell (h:Blk w g t cs)(i:Nat):w.cell? ⟨g,i,none⟩=cs[i]?:=by
 rw[cell_of_row w g i cs.toArray t (0,0) h];simp
theorem Blk.c0 (h:Blk w g t (a0 :: l)):w.cell? ⟨g,0,none⟩=some a0:=h.cell 0
theorem Blk.c1 (h:Blk w g t (a0 :: a1 :: l)):w.cell? ⟨g,1,none⟩=some a1:=h.cell 1
theorem Blk.c2 (h:Blk w g t (a0 :: a1 :: a2 :: l)):w.cell? ⟨g,2,none⟩=some a2:=h.cell 2
theorem Blk.c3 (h:Blk w g t (a0 :: a1 :: a2 :: a3 :: l)):w.cell? ⟨g,3,none⟩=some a3:=h.cell 3
theorem Blk.c4 (h:Blk w g t (a0 :: a1 :: a2 :: a3 :: a4 :: l)):w.cell? ⟨g,4,none⟩=some a4:=h.cell 4
theorem Blk.c5 (h:Blk w g t (a0 :: a1 :: a2 :: a3 :: a4 :: a5 :: l)):w.cell? ⟨g,5,none⟩=some a5:=h.cell 5
theorem Blk.c6 (h:Blk w g t (a0 :: a1 :: a2 :: a3 :: a4 :: a5 :: a6 :: l)):w.cell? ⟨g,6,none⟩=some a6:=h.cell 6
theorem Blk.c7 (h:Blk w g t (a0 :: a1 :: a2 :: a3 :: a4 :: a5 :: a6 :: a7 :: l)):w.cell? ⟨g,7,none⟩=some a7:=h.cell 7
theorem Blk.c8 (h:Blk w g t (a0 :: a1 :: a2 :: a3 :: a4 :: a5 :: a6 :: a7 :: a8 :: l)):w.cell? ⟨g,8,none⟩=some a8:=h.cell 8
theorem Blk.c9 {a9:Value}(h:Blk w g t (a0 :: a1 :: a2 :: a3 :: a4 :: a5 :: a6 :: a7 :: a8 :: a9 :: l)):w.cell? ⟨g,9,none⟩=some a9:=h.cell 9
theorem Blk.frozen (h:Blk w g t cs)(i:Nat):w.frozen? ⟨g,i,none⟩=false:=frozen_of_row w g i cs.toArray t h
theorem Blk.new (w:World)(t:TypeId)(cs:List Value):Blk (w.alloc (.cells cs.toArray t)) w.heap.size t cs:=heap_alloc_new w _
theorem Blk.top {cs':Array Value}(w:World)(hg:g=w.heap.size)(h:cs'=cs.toArray):Blk (w.alloc (.cells cs' t)) g t cs:=by subst hg h;exact heap_alloc_new w _
theorem Blk.drew (h:Blk w g t cs):Blk w.drew g t cs:=h
theorem Blk.drewN (h:Blk w g t cs)(n:Nat):Blk (w.drewN n) g t cs:=h
theorem Blk.alloc (h:Blk w g t cs)(o:Obj):Blk (w.alloc o) g t cs:=(Below.heap_alloc w o g h.lt).trans h
theorem Blk.set_ (h:Blk w g t cs)(i:Nat)(u:Value):Blk (w.setCell ⟨g,i,none⟩ u) g t (cs.set i u):=by
 unfold Blk at h ⊢;simp[World.setCell,Array.getElem?_modify,h]
theorem Blk.far (h:Blk w g t cs){p:Addr}(hp:g≠p.block)(u:Value):Blk (w.setCell p u) g t cs:=(Below.heap_setCell w p u g hp).trans h
theorem Blk.below (h:Blk w g t cs)(hb:Below B w w')(hg:g<B):Blk w' g t cs:=(hb.block g hg).trans h
theorem Blk.grown {row:Option Nat}(h:Blk w g t cs)(hb:w.grownBy w' row)(hg:row≠some g):Blk w' g t cs:=(hb.block g h.lt (fun e=>hg e.symm)).trans h
theorem Blk.ne_ {g':Nat}{t':TypeId}{cs':List Value}(h:Blk w g t cs)(h':Blk w g' t' cs')(hne:t≠t'):g≠g':=by
 rintro rfl;unfold Blk at h h';rw[h] at h';injection h' with h';injection h' with _ ht;exact hne ht
theorem Blk.setRow (h:Blk w g t cs)(cs':List Value):Blk (w.setRow g cs'.toArray) g t cs':=setRow_heap w g _ _ t _ h
end
theorem dw (u:Value):w.grownBy (w.setCell ⟨g,k,none⟩ u) (some g) :=
 ⟨rfl,rfl,rfl,by simp[World.setCell],fun i _ hi=>Below.heap_setCell w _ u i (fun e=>hi (by rw[e]))⟩
theorem mZ (cs:Array Value):w.grownBy (w.setRow g cs) (some g) :=
 ⟨rfl,rfl,rfl,by simp[World.setRow],fun i _ hi=>setRow_other w g i cs (fun e=>hi (by rw[e]))⟩
theorem et {a:World}(h:Below B a w)(hg:w.grownBy w' (some g))(hB:B<=w.heap.size)(h2:B<=g):Below B a w' :=
 h.grown hg hB (fun k hk=>by injection hk with hk;omega)
section
variable {P:Program} {w:World}
theorem oV (hb:Blk w g t cs)(hu:P.underlying ty=some (.array n e))(hi:(P.info? ty).map (·.size)=some n)
 (hx:xs.length=n) (hat:(cs.drop off).take n=xs):(loadVar ty ⟨g,off,none⟩).run P w=.ok (.agg xs.toArray) w:=by
 have hl:(loadCells ⟨g,off,none⟩ xs.length).run P w=.ok xs.toArray w :=
  run_loadCells_list (P:=P) w ⟨g,off,none⟩ xs (fun j v hv=>by
   have hadd:(⟨g,off,none⟩:Addr).add j=⟨g,off+j,none⟩:=by unfold Addr.add;split <;> simp_all
   have hj:j<xs.length:=by
    rcases ay j xs.length with h | h
    · exact h
    · rw[aK h] at hv;cases hv
   rw[hadd,hb.cell,<- List.getElem?_drop];rw[<- hat,aL,if_pos (by omega)] at hv;exact hv)
 rw[hx] at hl
 cases hq:P.info? ty with
 | none=>simp[hq] at hi
 | some i=>
   have hs:i.size=n:=by simpa [hq] using hi
   have hagg:(isAgg ty).run P w=.ok true w:=by
    unfold isAgg;rw[Sem.run_bind,run_underlying hu w]
    rfl
   simp[loadVar,Sem.run_bind,hagg,sizeOf,typeInfo,hq,hs,hl]
theorem run_store_arr (hb:Blk w g t cs)(hi:(P.info? ty).map (·.size)=some n)
 (hx:xs.length=n) (hfit:off+n<=cs.length) (h1:∀ v ∈ xs,v.oneCell'=true):(storeVar ty ⟨g,off,none⟩ (.agg xs.toArray)).run P w=.ok () (w.setRow g (splice cs off xs).toArray):=by
 have hr:=run_storeCells_at P g off t xs 0 cs.toArray w hb (by simp;omega) h1
 cases hq:P.info? ty with
 | none=>simp[hq] at hi
 | some i=>
   have hs:i.size=n:=by simpa [hq] using hi
   simp[storeVar,sizeOf,typeInfo,hq,Value.cells,hx,hs];simpa [splice,aN] using hr
variable {ops:Array Oper} {rest:List Oper} {o:Oper} {a:Act} {Q:Exit→Act→World→Prop} {K:Act→World→Prop}
theorem wp_load_arr (ho:o.op=.load ty x)(hx:a.eval x=.pointer (some ⟨g,off,none⟩))(hb:Blk w g t cs)
 (hu:P.underlying ty=some (.array n e)) (hi:(P.info? ty).map (·.size)=some n) (hl:xs.length=n) (hat:(cs.drop off).take n=xs)
 (h:K (a.put o.dst (.agg xs.toArray)) w):o.wp P a w K Q:=by
 unfold Oper.wp execOp;simp only[ho,hx,Instr.loadAt,Instr.sureAddr,Sem.run_bind,Sem.run_pure,Result.andThen_ok,oV hb hu hi hl hat];exact h
theorem fi (hgd:Region.wanted o (yielded ops a.tmps)=true)(ho:o.op=.load ty x)(hx:a.eval x=.pointer (some ⟨g,off,none⟩))(hb:Blk w g t cs)
 (hu:P.underlying ty=some (.array n e)) (hi:(P.info? ty).map (·.size)=some n) (hl:xs.length=n) (hat:(cs.drop off).take n=xs)
 (h:wpList P ops Q rest (a.put o.dst (.agg xs.toArray)) w):wpList P ops Q (o :: rest) a w :=
 wpList_step fun _ hK=>by rw[if_pos hgd];exact wp_load_arr ho hx hb hu hi hl hat (hK _ _ h)
theorem wp_store_arr {y:Operand}(ho:o.op=.store ty x y)(hx:a.eval x=.pointer (some ⟨g,off,none⟩))(hy:a.eval y=.agg xs.toArray)(hb:Blk w g t cs)
 (hi:(P.info? ty).map (·.size)=some n) (hl:xs.length=n) (hfit:off+n<=cs.length) (h1:∀ v ∈ xs,v.oneCell'=true)
 (h:∀ w',Blk w' g t (splice cs off xs)->w.grownBy w' (some g)->w'.heap.size=w.heap.size->K (a.put o.dst (.tuple #[])) w'):o.wp P a w K Q:=by
 unfold Oper.wp execOp;simp only[ho,hx,hy,Instr.storeAt,Instr.sureAddr,Sem.run_bind,Sem.run_pure,Result.andThen_ok,run_store_arr hb hi hl hfit h1];exact h _ (hb.setRow _) (mZ _) (by simp)
theorem eu (hgd:o.guard=none){y:Operand}(ho:o.op=.store ty x y)(hx:a.eval x=.pointer (some ⟨g,off,none⟩))(hy:a.eval y=.agg xs.toArray)(hb:Blk w g t cs)
 (hi:(P.info? ty).map (·.size)=some n) (hl:xs.length=n) (hfit:off+n<=cs.length) (h1:∀ v ∈ xs,v.oneCell'=true)
 (h:∀ w',Blk w' g t (splice cs off xs)->w.grownBy w' (some g)->w'.heap.size=w.heap.size->wpList P ops Q rest (a.put o.dst (.tuple #[])) w'):wpList P ops Q (o :: rest) a w :=
 wpList_plain hgd fun _ hK=>wp_store_arr ho hx hy hb hi hl hfit h1 fun w' h2 h3 h4=>hK _ _ (h w' h2 h3 h4)
end
theorem jN {fn:Func}{p q:Tmp}(h:fn.results=#[.cell p ty,.tmp q])(tmps:Array Value)
 (hp:tmps.getD p undef=.pointer (some ⟨g,0,none⟩)) (hq:tmps.getD q undef=v) (hb:Blk w g t cs) (hu:P.underlying ty=some (.array n e)) (hi:(P.info? ty).map (·.size)=some n) (hl:cs.length=n) :
 (results fn tmps).run P w=.ok (.tuple #[.agg cs.toArray,v]) w:=by
 have hp':tmps[p]?.getD undef=.pointer (some ⟨g,0,none⟩):=by simpa using hp
 have hq':tmps[q]?.getD undef=v:=by simpa using hq
 simp[results,h,hp',hq',asAddr,oV hb hu hi hl (by rw[aG,au (by omega)])]
section
variable {α:Type} {enc:α→Value}
theorem run_copy_rd {l k:List α}(hE:dQ P dT e z 1 bytes)(hone:∀ x,(enc x).oneCell'=true)
 (hdp:0<dLen->dp=some ⟨g,off,none⟩) (hg:Blk w g t (l.map enc)) (hr:Rd enc w A n k) (hfit:off+min n dLen<=l.length) :
 ∃ w',(Builtin.copy_ #[dT,sT] ty #[.slice dp dLen dCap,.slice A n c]).run P w=.ok (goInt ((min n dLen:Nat):Int)) w'/\Blk w' g t ((splice l off (k.take dLen)).map enc)/\w.grownBy w' (some g)/\w'.heap.size=w.heap.size:=by
 obtain⟨ht,⟨i,hi,_,hs,_⟩,_⟩:=hE;have hsz:(P.info? e).map (·.size)=some 1:=by rw[hi];simp[hs]
 have hlen:(k.take dLen).length=min n dLen:=by rw[aA,hr.1,Nat.min_comm]
 by_cases h0:min n dLen=0
 · refine⟨w,?_,?_,World.grownBy.refl w _,rfl⟩
   · rw[run_copy_none w dT sT ty e dp A dLen dCap n c ht hsz h0,h0];rfl
   · rw[List.eq_nil_of_length_eq_zero (hlen.trans h0)];simpa [splice] using hg
 · have hd0:0<dLen:=by omega
   obtain⟨b,o,hA,hb,hc⟩:=hr.2 (by omega);rw[hdp hd0,hA];have hsrc:∀ j v,((k.take dLen).map enc)[j]?=some v->w.cell? ((⟨b,o,none⟩:Addr).add j)=some v:=by
    intro j v hv;have hj:j<(k.take dLen).length:=by
     rcases ay j (k.take dLen).length with h | h
     · exact h
     · rw[aK (by simpa using h)] at hv;cases hv
    have hadd:(⟨b,o,none⟩:Addr).add j=⟨b,o+j,none⟩:=by unfold Addr.add;split <;> simp_all
    have:=hc j (by omega);have hjk:j<k.length:=by rw[hr.1];omega
    rw[hadd,this,<- hv]
    show some ((k.map enc).getD j undef)=_
    rw[ik k j hjk];simp[aL,hjk];omega
   have hrun:=run_copy_row P w dT sT ty e g off dLen dCap ⟨b,o,none⟩ n c (l.map enc).toArray t ((k.take dLen).map enc) ht hsz hg (by rw[az,hlen]) hsrc (by rw[az,hlen];simpa using hfit) (by
    intro u hu;obtain⟨y,_,rfl⟩:=List.mem_map.1 hu;exact hone y)
   refine⟨w.setRow g ((l.map enc).take off ++ (k.take dLen).map enc ++ (l.map enc).drop (off+((k.take dLen).map enc).length)).toArray,?_,?_,mZ _,by simp⟩
   · rw[hrun,az,hlen]
   · have:=hg.setRow ((l.map enc).take off ++ (k.take dLen).map enc ++ (l.map enc).drop (off+((k.take dLen).map enc).length));simpa [splice] using this
theorem oW {K:Act->World->Prop}{Q:Exit->Act->World->Prop}{l k L:List α}
 (ho:o.op=.call { callee:=.builtin .copy,args:=#[d,s],argTypes:=#[dT,sT] }) (hE:dQ P dT e z 1 bytes) (hone:∀ x,(enc x).oneCell'=true)
 (hd:a.eval d=.slice dp dLen dCap) (hs:a.eval s=.slice A n c)
 (hdp:0<dLen->dp=some ⟨g,off,none⟩) (hg:Blk w g t (l.map enc)) (hr:Rd enc w A n k) (hfit:off+min n dLen<=l.length) (hL:splice l off (k.take dLen)=L)
 (h:∀ w',Blk w' g t (L.map enc)->w.grownBy w' (some g)->w'.heap.size=w.heap.size->K (a.put o.dst (I ((min n dLen:Nat):Int))) w'):o.wp P a w K Q:=by
 obtain⟨w',hrun,h1,h2,h3⟩:=run_copy_rd (P:=P) (dT:=dT) (sT:=sT) (ty:=o.type) (dCap:=dCap) (c:=c) hE hone hdp hg hr hfit;unfold Oper.wp;simp[execOp,ho,resolve,invoke,builtin,hd,hs,hrun,Result.andThen];rw[hL] at h1;exact h w' h1 h2 h3
theorem wpList_copy_rd {ops:Array Oper}{rest:List Oper}{Q:Exit->Act->World->Prop}{l k L:List α}(hgd:o.guard=none)
 (ho:o.op=.call { callee:=.builtin .copy,args:=#[d,s],argTypes:=#[dT,sT] }) (hE:dQ P dT e z 1 bytes) (hone:∀ x,(enc x).oneCell'=true)
 (hd:a.eval d=.slice dp dLen dCap) (hs:a.eval s=.slice A n c)
 (hdp:0<dLen->dp=some ⟨g,off,none⟩) (hg:Blk w g t (l.map enc)) (hr:Rd enc w A n k) (hfit:off+min n dLen<=l.length) (hL:splice l off (k.take dLen)=L)
 (h:∀ w',Blk w' g t (L.map enc)->w.grownBy w' (some g)->w'.heap.size=w.heap.size->wpList P ops Q rest (a.put o.dst (I ((min n dLen:Nat):Int))) w'):wpList P ops Q (o :: rest) a w :=
 wpList_plain hgd fun _ hK=>oW ho hE hone hd hs hdp hg hr hfit hL fun w' h1 h2 h3=>hK _ _ (h w' h1 h2 h3)
theorem lf {ops:Array Oper}{K:Act->World->Prop}{Q:Exit->Act->World->Prop}{l k L:List α}(hgd:o.guard=none)
 (ho:o.op=.call { callee:=.builtin .copy,args:=#[d,s],argTypes:=#[dT,sT] }) (hE:dQ P dT e z 1 bytes) (hone:∀ x,(enc x).oneCell'=true)
 (hd:a.eval d=.slice dp dLen dCap) (hs:a.eval s=.slice A n c)
 (hdp:0<dLen->dp=some ⟨g,off,none⟩) (hg:Blk w g t (l.map enc)) (hr:Rd enc w A n k) (hfit:off+min n dLen<=l.length) (hL:splice l off (k.take dLen)=L)
 (h:∀ w',Blk w' g t (L.map enc)->w.grownBy w' (some g)->w'.heap.size=w.heap.size->K (a.put o.dst (I ((min n dLen:Nat):Int))) w') :
 if Region.wanted o (yielded ops a.tmps)=true then Oper.wp P o a w K Q else E:=by
 have hw:Region.wanted o (yielded ops a.tmps)=true:=by simp[Region.wanted,hgd]
 rw[if_pos hw];exact oW ho hE hone hd hs hdp hg hr hfit hL h
end
theorem Rd.drew' {enc:α->Value}{l:List α}(h:Rd enc w A n l):Rd enc w.drew A n l:=h
theorem eG {C:Code}{Q:Exit->Act->World->Prop}(F:World->Prop)(hF:F w)(h:∀ w',F w'->C.wp P Q a w'):C.wp P Q a w:=h w hF
abbrev BlkB (w:World)(g:Nat)(t:TypeId)(l:List UInt8):Prop:=Blk w g t (l.map bv)
def aggB (l:List UInt8):Value:=.agg (l.map bv).toArray
theorem ew {l:List UInt8}:∀ v ∈ l.map bv,v.oneCell'=true:=by
 intro v hv;obtain⟨x,_,rfl⟩:=List.mem_map.1 hv;rfl
theorem oX {β:Type}(f:α->β)(l:List α)(off:Nat)(k:List α):splice (l.map f) off (k.map f)=(splice l off k).map f:=by simp[splice]
theorem dS (l k:List α)(h:l.length=k.length):splice l 0 k=k:=by simp[splice,h]
theorem BlkB.rb {l k:List UInt8}(h:BlkB w g t l)(hk:(l.drop off).take n=k)(hn:off+n<=l.length):RB w (some ⟨g,off,none⟩) n k:=by
 refine⟨by rw[<- hk];simp;omega,fun _=>⟨g,off,rfl,h.lt,fun i hi=>?_⟩⟩;rw[h.cell,<- hk];unfold bx;have:off+i<l.length:=by omega
 simp[ah,hi,this,bv]
theorem run_eqItems_bytes (he:P.underlying e=some (.int .u8))(hk:P.plainKey e=true)(d:Nat)(l k:List UInt8)(hlk:l.length=k.length) :
 ∀ m j,j+m=l.length->(Op.eqItems (d+1) e 1 (l.map bv).toArray (k.map bv).toArray (List.range' j m)).run P w=.ok (decide (l.drop j=k.drop j)) w:=by
 intro m
 induction m with
 | zero=>
   intro j hj;have e1:l.drop j=[]:=aP (by omega);have e2:k.drop j=[]:=aP (by omega);simp[Op.eqItems,e1,e2]
 | succ m ih=>
   intro j hj;have h1:(l.map bv).toArray[j]?=some (bv (l[j]'(by omega))):=by simp[ap (show j<l.length from by omega)]
   have h2:(k.map bv).toArray[j]?=some (bv (k[j]'(by omega))):=by simp[ap (show j<k.length from by omega)]
   rw[List.range'_succ];have h3:(Op.equalIn (d+1) e (bv l[j]) (bv k[j])).run P w=.ok (((l[j].toNat:Nat):Int) == ((k[j].toNat:Nat):Int)) w:=run_equalIn_int w d e .u8 .u8 _ _ he;simp only[Op.eqItems,Nat.mul_one,Sem.run_bind,run_part_plain w hk h1,run_part_plain w hk h2,Result.andThen_ok,h3];rw[aQ (show j<l.length from by omega),aQ (show j<k.length from by omega)]
   by_cases hx:l[j]=k[j]
   · have:=ih (j+1) (by omega);simp only[hx,beq_self_eq_true,Bool.not_true,Bool.false_eq_true,if_false,this,List.cons.injEq,true_and]
   · have hne:((((l[j]).toNat:Nat):Int) == (((k[j]).toNat:Nat):Int))=false:=by
      rw[af];intro h;exact hx (UInt8.toNat_inj.1 (by omega))
     simp only[hne,Bool.not_false,if_true,Sem.run_pure,List.cons.injEq,hx,false_and,decide_false]
theorem run_eq_bytes (hu:P.underlying t=some (.array n e))(he:P.underlying e=some (.int .u8))(hk:P.plainKey e=true)(hc:P.cellsOf e=1)(hi:(P.info? e).isSome=true)
 (l k:List UInt8) (hl:l.length=n) (hlk:k.length=n):(Op.equalIn 10000 t (.agg (l.map bv).toArray) (.agg (k.map bv).toArray)).run P w=.ok (decide (l=k)) w:=by
 obtain⟨i,hi⟩:=Option.isSome_iff_exists.1 hi;rw[show 10000=9999+1 from rfl,run_equalIn_array w 9999 _ _ hu hi,hc,List.range_eq_range',show 9999=9998+1 from rfl,run_eqItems_bytes he hk 9998 l k (by omega) n 0 (by omega)];simp
theorem run_slice3 (hu:P.underlying t=some (.array n e))(hs:(P.info? e).map (·.size)=some 1)(g:Nat)(lo hi:Int)(L m:Nat)(hL:lo=(L:Int))(hh:hi=((L+m:Nat):Int))(hm:0<m)(hn:L+m<=n)(W:World) :
 (Instr.sliceAt t (.pointer (some ⟨g,0,none⟩)) (some (I lo)) (some (I hi)) (some (I hi))).run P W=.ok (.slice (some ⟨g,L,none⟩) m m) W:=by
 have e1:P.arrayLen t=n:=by unfold Program.arrayLen;rw[hu]
 have e2:P.elem t=e:=by unfold Program.elem;rw[hu]
 cases hq:P.info? e with
 | none=>simp[hq] at hs
 | some i=>
   have hsz:i.size=1:=by simpa [hq] using hs
   subst hL hh;rw[run_sliceAt_array_lhm W t ⟨g,0,none⟩ (by rw[e1,e2];exact hu) .i64 .i64 .i64 _ _ _ (by omega) (by omega) (by omega) (by rw[e1];omega),e2];have h3:¬ (L+m=L):=by omega
   have hadd:(⟨g,0,none⟩:Addr).add L=⟨g,L,none⟩:=by unfold Addr.add;split <;> simp_all
   have hso:(sizeOf e).run P W=.ok 1 W:=by simp[sizeOf,typeInfo,hq,hsz]
   rw[hso];simp only[Result.andThen_ok,slicedAt,ax,Nat.mul_one,h3,if_false,Nat.add_sub_cancel_left,hadd]
structure Keep (F:Nat->Prop)(w w':World):Prop where
 os:w'.os=w.os
 tape:w'.tape=w.tape
 output:w'.output=w.output
 size:w.heap.size<=w'.heap.size
 block:∀ k,k<w.heap.size->¬ F k->w'.heap[k]?=w.heap[k]?
section
variable {F G:Nat→Prop} {w w' w'':World} {B:Nat}
theorem Keep.refl (F:Nat->Prop)(w:World):Keep F w w:=⟨rfl,rfl,rfl,Nat.le_refl _,fun _ _ _=>rfl⟩
theorem Keep.trans (h:Keep F w w')(k:Keep G w' w'')(hG:∀ g,g<w.heap.size->G g->F g):Keep F w w'' :=
 ⟨k.os.trans h.os,k.tape.trans h.tape,k.output.trans h.output,ae h.size k.size,fun g hg hn=>
  (k.block g (Nat.lt_of_lt_of_le hg h.size) (fun e=>hn (hG g hg e))).trans (h.block g hg hn)⟩
theorem Keep.of_below (h:Below w.heap.size w w'):Keep F w w':=⟨h.os,h.tape,h.output,h.size,fun k hk _=>h.block k hk⟩
theorem Keep.of_grown {row:Option Nat}(h:w.grownBy w' row)(hF:∀ g,row=some g->F g):Keep F w w' :=
 ⟨h.os,h.tape,h.output,h.size,fun k hk hn=>h.block k hk (fun e=>hn (hF k e.symm))⟩
theorem Keep.drewN (h:Keep F w w')(n:Nat):Keep F w (w'.drewN n):=⟨h.os,h.tape,h.output,h.size,h.block⟩
theorem Keep.of_drew (h:Keep F w.drew w'):Keep F w w':=⟨h.os,h.tape,h.output,h.size,h.block⟩
theorem Keep.set_ (k:Keep F w w'){i:Nat}(u:Value)(hF:F g):Keep F w (w'.setCell ⟨g,i,none⟩ u) :=
 k.trans (G:=(·=g)) (Keep.of_grown (dw u) (fun x e=>by injection e with e;exact e.symm)) (fun x _ e=>by rw[e];exact hF)
theorem Keep.one (h:w.grownBy w' (some g)):Keep (·=g) w w':=Keep.of_grown h (fun x e=>by injection e with e;exact e.symm)
theorem Keep.alloc (k:Keep F w w')(o:Obj):Keep F w (w'.alloc o):=k.trans (G:=fun _=>False) (Keep.of_below ((Below.refl _ _).alloc (Nat.le_refl _) o)) (fun _ _ e=>e.elim)
theorem Keep.then_grown (k:Keep F w w'){row:Option Nat}(h:w'.grownBy w'' row)(hF:∀ g,row=some g->F g):Keep F w w'':=k.trans (G:=F) (Keep.of_grown h hF) (fun _ _ e=>e)
theorem Keep.then_below (k:Keep F w w')(h:Below w'.heap.size w' w''):Keep F w w'':=k.trans (G:=F) (Keep.of_below h) (fun _ _ e=>e)
theorem Keep.below (h:Keep F w w')(hF:∀ g,F g->B<=g)(hB:B<=w.heap.size):Below B w w' :=
 ⟨h.os,h.tape,h.output,h.size,fun k hk=>h.block k (by omega) (fun e=>by have:=hF k e;omega)⟩
theorem Keep.mono (h:Keep F w w')(hG:∀ g,g<w.heap.size->F g->G g):Keep G w w':=⟨h.os,h.tape,h.output,h.size,fun k hk hn=>h.block k hk (fun e=>hn (hG k hk e))⟩
theorem Blk.keep (h:Blk w g t cs)(k:Keep F w w')(hn:¬ F g):Blk w' g t cs:=(k.block g h.lt hn).trans h
theorem jy (h:w.ownsRow base e size v n xs)(hg:Blk w g t cs)(hne:e≠t):v.ownBlock≠some g:=by
 rcases h.2 with ⟨rfl,_⟩ | ⟨g',cap,cur,rfl,_,hh,_⟩
 · simp[Value.ownBlock]
 · intro he;have e1:g'=g:=by simpa [Value.ownBlock] using he
   subst e1;unfold Blk at hg;rw[hh] at hg;injection hg with hg;injection hg with _ ht;exact hne ht
theorem il (h:w.ownsRow base e size v n xs)(k:Keep F w w')(hn:∀ g,v.ownBlock=some g->¬ F g):w'.ownsRow base e size v n xs:=by
 refine⟨h.1,?_⟩;rcases h.2 with h0 | ⟨g,cap,cur,hv,hb,hg,rest⟩
 · exact .inl h0
 · exact .inr ⟨g,cap,cur,hv,hb,(k.block g (lt_of_block hg) (hn g (by rw[hv];rfl))).trans hg,rest⟩
end
section
variable {α:Type} {enc:α→Value} {w:World} {base n c g:Nat} {e t:TypeId} {A:Option Addr} {l:List α} {cs:List Value}
theorem Ow.ne_ (h:Ow enc w base e A n c l)(hg:Blk w g t cs)(hne:e≠t):A.map (·.block)≠some g:=fun e=>jy h.2 hg hne (by cases A with | none=>cases e | some a=>simpa [Value.ownBlock] using e)
theorem Ow.setFar (h:Ow enc w base e A n c l)(hg:Blk w g t cs)(hne:e≠t)(i:Nat)(u:Value):Ow enc (w.setCell ⟨g,i,none⟩ u) base e A n c l :=
 ⟨h.1,il (F:=(·=g)) h.2 (Keep.of_grown (dw u) (fun x e=>by injection e with e;exact e.symm)) (fun x hx e=>jy h.2 hg hne (by subst e;exact hx))⟩
end
section
variable {w w':World} {g:Nat} {t:TypeId} {cs xs:List Value}
theorem Blk.range (h:Blk w g t cs){o:Nat}(hx:(cs.drop o).take n=xs):w.rangeAt g o xs:=by
 intro j v hv;rw[h.cell,<- List.getElem?_drop];have hj:j<xs.length:=by
  rcases ay j xs.length with h1 | h1
  · exact h1
  · rw[aK h1] at hv;cases hv
 have hn:j<n:=by rw[<- hx,aA] at hj;omega
 rw[<- hx,aL,if_pos hn] at hv;exact hv
theorem Blk.there (h:Blk w g t cs)(off n:Nat)(hn:off+n<=cs.length):w.there g off n:=fun j hj=>by
 rw[h.cell,ap (by omega)];exact⟨rfl,h.frozen _⟩
theorem Blk.setCellsFar (hne:g≠b):∀ (xs:List Value) (o:Nat) (w:World),Blk w g t cs->Blk (w.setCells b o xs) g t cs:=by
 intro xs
 induction xs with
 | nil=>intro o w h;exact h
 | cons x xs ih=>intro o w h;exact ih (o+1) _ (h.far (p:=⟨b,o,none⟩) hne x)
theorem m0 (l:List α)(o:Nat)(x:α)(xs:List α)(h:o+xs.length+1<=l.length):splice (l.set o x) (o+1) xs=splice l o (x :: xs):=by
 unfold splice;have ho:o<l.length:=by omega
 rw[aO (by rw[List.length_set];exact ho),List.take_set_of_le (Nat.le_refl _),List.getElem_set_self,List.drop_set_of_lt (by omega)];simp[Nat.add_assoc,Nat.add_comm 1]
theorem Blk.setCells:∀ (xs:List Value) (o:Nat) (w:World) (cs:List Value),Blk w g t cs->o+xs.length<=cs.length->Blk (w.setCells g o xs) g t (splice cs o xs):=by
 intro xs
 induction xs with
 | nil=>intro o w cs h hl;have e:splice cs o ([]:List Value)=cs:=by simp[splice]
        rw[e];exact h
 | cons x xs ih=>
   intro o w cs h hl;have h1:=ih (o+1) _ _ (h.set_ o x) (by rw[List.length_set];simp at hl;omega);rw[m0 _ _ _ _ (by simp at hl;omega)] at h1;exact h1
theorem oY (g:Nat):∀ (xs:List Value) (o:Nat) (w:World),w.grownBy (w.setCells g o xs) (some g):=by
 intro xs
 induction xs with
 | nil=>intro o w;exact World.grownBy.refl _ _
 | cons x xs ih=>
   intro o w;have h1:=dw (w:=w) (g:=g) (k:=o) x;have h2:=ih (o+1) (w.setCell ⟨g,o,none⟩ x);exact⟨h2.os.trans h1.os,h2.tape.trans h1.tape,h2.output.trans h1.output,ae h1.size h2.size,fun k hk hn=>(h2.block k (Nat.lt_of_lt_of_le hk h1.size) hn).trans (h1.block k hk hn)⟩
theorem Keep.drewD {F:Nat->Prop}(h:Keep F w w'):Keep F w w'.drew:=⟨h.os,h.tape,h.output,h.size,h.block⟩
end
section
variable {α:Type} {size:Nat} {enc:α→List Value} {w w':World} {A:Option Addr} {n c base:Nat} {e:TypeId} {l:List α}
theorem ng (henc:∀ x,(enc x).length=size)(l:List α):(l.flatMap enc).length=l.length * size:=by
 induction l with
 | nil=>simp
 | cons x l ih=>rw[List.flatMap_cons,aw,ih,henc,aF,Nat.succ_mul,Nat.add_comm]
theorem flat_at (henc:∀ x,(enc x).length=size){j:Nat}(hj:j<size):∀ (l:List α) (k:Nat) (x:α),l[k]?=some x->(l.flatMap enc)[k * size+j]?=(enc x)[j]?:=by
 intro l
 induction l with
 | nil=>intro k x h;simp at h
 | cons y l ih=>
   intro k x h;rw[List.flatMap_cons]
   cases k with
   | zero=>
     simp only[List.getElem?_cons_zero,Option.some.injEq] at h;subst h;rw[Nat.zero_mul,aD,aR (by rw[henc];exact hj)]
   | succ k=>
     simp only[List.getElem?_cons_succ] at h;rw[aM (by rw[henc,Nat.succ_mul];omega),henc,show (k+1) * size+j - size=k * size+j from by rw[Nat.succ_mul];omega];exact ih k x h
def RdS (size:Nat)(enc:α->List Value)(w:World)(A:Option Addr)(n:Nat)(l:List α):Prop:=l.length=n/\RowL w A n size (l.flatMap enc)
def OwS (size:Nat)(enc:α->List Value)(w:World)(base:Nat)(e:TypeId)(A:Option Addr)(n c:Nat)(l:List α):Prop:=l.length=n/\w.ownsRow base e size (.slice A n c) n (l.flatMap enc)
theorem RdS.at_ (h:RdS size enc w A n l)(henc:∀ x,(enc x).length=size)(h0:0<size)(hk:k<n):∃ b o x,A=some ⟨b,o,none⟩/\b<w.heap.size/\l[k]?=some x/\∀ j,j<size->w.cell? ⟨b,o+k * size+j,none⟩=(enc x)[j]?:=by
 have hk':k<l.length:=by rw[h.1];exact hk
 have hlt:k * size+size<=n * size:=by rw[<- Nat.succ_mul];exact Nat.mul_le_mul_right _ hk
 obtain⟨b,o,hA,hb,hc⟩:=h.2.2 (by omega);refine⟨b,o,l[k],hA,hb,ap hk',fun j hj=>?_⟩;have:=hc (k * size+j) (by omega);rw[Nat.add_assoc,this]
 show some ((l.flatMap enc).getD (k * size+j) undef)=_
 rw[ah,flat_at henc hj l k _ (ap hk')];have:j<(enc l[k]).length:=by rw[henc];exact hj
 simp[ap this]
theorem RowL.below (h:RowL w A n size xs)(hb:Below b w w')(hB:w.heap.size<=b):RowL w' A n size xs:=⟨h.1,h.2.below hb hB⟩
theorem RdS.below (h:RdS size enc w A n l)(hb:Below b w w')(hB:w.heap.size<=b):RdS size enc w' A n l:=⟨h.1,h.2.below hb hB⟩
theorem RowL.of_own (h:w.ownsRow base e size (.slice A n c) n xs):RowL w A n size xs:=by
 refine⟨h.1,fun hn=>?_⟩;rcases h.2 with ⟨hv,h0⟩ | ⟨g,cap,cur,hv,hb,hg,hnc,hm,hs,ht⟩
 · rw[h0,Nat.zero_mul] at hn;omega
 · injection hv with hv _ _;subst hv;have hle:n * size<=cap * size:=Nat.mul_le_mul_right _ hnc;refine⟨g,0,rfl,lt_of_block hg,fun i hi=>?_⟩;rw[aD,cell_of_row w g i cur e (0,0) hg,<- ht];have hi':i<cur.size:=by omega
   show _=some ((List.take (n * size) cur.toList).getD i undef)
   rw[ah,aL,if_pos hi];simp[hi']
theorem OwS.rd (h:OwS size enc w base e A n c l):RdS size enc w A n l:=⟨h.1,RowL.of_own h.2⟩
theorem OwS.below (h:OwS size enc w base e A n c l)(hb:Below b w w')(hB:w.heap.size<=b):OwS size enc w' base e A n c l:=by
 refine⟨h.1,h.2.1,?_⟩;rcases h.2.2 with hn | ⟨g,cap,cur,hv,hbg,hg,rest⟩
 · exact .inl hn
 · exact .inr ⟨g,cap,cur,hv,hbg,by rw[hb.block g (Nat.lt_of_lt_of_le (lt_of_block hg) hB)];exact hg,rest⟩
theorem OwS.rebase (h:OwS size enc w base e A n c l)(hb:base'<=base):OwS size enc w base' e A n c l:=by
 refine⟨h.1,h.2.1,?_⟩;rcases h.2.2 with hn | ⟨g,cap,cur,hv,hbg,rest⟩
 · exact .inl hn
 · exact .inr ⟨g,cap,cur,hv,ae hb hbg,rest⟩
theorem OwS.nil (size:Nat)(enc:α->List Value)(w:World)(base:Nat)(e:TypeId):OwS size enc w base e none 0 0 []:=⟨rfl,World.ownsRow_nil w base e size⟩
theorem OwS.cap (h:OwS size enc w base e A n c l):n<=c/\c<=maxLen:=by
 obtain⟨A',c',e',h1,h2,_⟩:=lR h.2;injection e' with _ _ e';subst e';exact⟨h1,h2⟩
theorem OwS.setFar (h:OwS size enc w base e A n c l)(hg:Blk w g t cs)(hne:e≠t)(i:Nat)(u:Value):OwS size enc (w.setCell ⟨g,i,none⟩ u) base e A n c l :=
 ⟨h.1,il (F:=(·=g)) h.2 (Keep.of_grown (dw u) (fun x e=>by injection e with e;exact e.symm)) (fun x hx e=>jy h.2 hg hne (by subst e;exact hx))⟩
theorem RdS.of_block {cs:Array Value}{fr:Nat × Nat}(hg:w.heap[g]?=some (.cells cs t fr))(henc:∀ x,(enc x).length=size){l:List α}(h:cs.toList=l.flatMap enc):RdS size enc w (some ⟨g,0,none⟩) l.length l :=
 ⟨rfl,ng henc l,Row.of_block hg 0 fun i hi=>by
  rw[aD,<- Array.getElem?_toList,h,ah,ap (by rw[ng henc];exact hi)];rfl⟩
theorem wp_appS {K:Act->World->Prop}{Q:Exit->Act->World->Prop}{d:Nat}{B:Option Addr}{k L:List α}
 (ho:o.op=.call { callee:=.builtin .append,args:=#[s,x],argTypes:=#[t,t] })
 (hE:dQ P t e z size bytes) (hone:∀ x,∀ u ∈ enc x,u.oneCell'=true)
 (hs:a.eval s=.slice A n c) (hown:OwS size enc w base e A n c l)
 (hx:a.eval x=.slice B m d) (hr:RdS size enc w B m k)
 (hN:n+m=N) (hL:l ++ k=L) (h63:N<=maxLen) (hbytes:N * bytes<=140737488355328) (hbase:base<=w.heap.size)
 (h:∀ A' c' w',OwS size enc w' base e A' N c' L->w.grownBy w' (A.map (·.block))->(A'.map (·.block)=A.map (·.block)\/A'.map (·.block)=some w.heap.size)->Below base w w'->K (a.put o.dst (.slice A' N c')) w') :
 o.wp P a w K Q:=by
 subst hN hL;obtain⟨v',w',hrun,h2,h3,h4⟩:=oT (P:=P) w base t o.type e z size bytes hE _ n _ hown.2 B m d _ hr.2 (by
  intro u hu;obtain⟨y,_,hy⟩:=List.mem_flatMap.1 hu;exact hone y u hy) h63 hbytes hbase
 unfold Oper.wp execOp;simp only[ho,resolve,invoke,builtin,Sem.run_bind,Sem.run_pure,Result.andThen_ok,List.map_toArray,List.map_cons,List.map_nil,hs,hx,hrun];obtain⟨A',c',rfl,_⟩:=lR h2;have hA:(Value.slice A n c).ownBlock=A.map (·.block):=by cases A <;> rfl
 have hA':(Value.slice A' (n+m) c').ownBlock=A'.map (·.block):=by cases A' <;> rfl
 rw[hA] at h3 h4;rw[hA'] at h4;exact h A' c' w' ⟨by rw[aw,hown.1,hr.1],by rw[List.flatMap_append];exact h2⟩ h3 h4 ((Below.refl _ _).grown h3 hbase (fun g hg=>by
  cases A with | none=>cases hg | some a=>exact (hown.2.lt g (by simpa [Value.ownBlock] using hg)).1))
theorem oZ {ops:Array Oper}{rest:List Oper}{Q:Exit->Act->World->Prop}{d:Nat}{B:Option Addr}{k L:List α}(hgd:o.guard=none)
 (ho:o.op=.call { callee:=.builtin .append,args:=#[s,x],argTypes:=#[t,t] })
 (hE:dQ P t e z size bytes) (hone:∀ x,∀ u ∈ enc x,u.oneCell'=true)
 (hs:a.eval s=.slice A n c) (hown:OwS size enc w base e A n c l)
 (hx:a.eval x=.slice B m d) (hr:RdS size enc w B m k)
 (hN:n+m=N) (hL:l ++ k=L) (h63:N<=maxLen) (hbytes:N * bytes<=140737488355328) (hbase:base<=w.heap.size)
 (h:∀ A' c' w',OwS size enc w' base e A' N c' L->w.grownBy w' (A.map (·.block))->(A'.map (·.block)=A.map (·.block)\/A'.map (·.block)=some w.heap.size)->Below base w w'->wpList P ops Q rest (a.put o.dst (.slice A' N c')) w') :
 wpList P ops Q (o :: rest) a w :=
 wpList_plain hgd fun _ hK=>wp_appS ho hE hone hs hown hx hr hN hL h63 hbytes hbase fun A' c' w' h1 h2 h3 h4=>hK _ _ (h A' c' w' h1 h2 h3 h4)
theorem step_appS {ops:Array Oper}{K:Act->World->Prop}{Q:Exit->Act->World->Prop}{d:Nat}{B:Option Addr}{k L:List α}(hgd:o.guard=none)
 (ho:o.op=.call { callee:=.builtin .append,args:=#[s,x],argTypes:=#[t,t] })
 (hE:dQ P t e z size bytes) (hone:∀ x,∀ u ∈ enc x,u.oneCell'=true)
 (hs:a.eval s=.slice A n c) (hown:OwS size enc w base e A n c l)
 (hx:a.eval x=.slice B m d) (hr:RdS size enc w B m k)
 (hN:n+m=N) (hL:l ++ k=L) (h63:N<=maxLen) (hbytes:N * bytes<=140737488355328) (hbase:base<=w.heap.size)
 (h:∀ A' c' w',OwS size enc w' base e A' N c' L->w.grownBy w' (A.map (·.block))->(A'.map (·.block)=A.map (·.block)\/A'.map (·.block)=some w.heap.size)->Below base w w'->K (a.put o.dst (.slice A' N c')) w') :
 if Region.wanted o (yielded ops a.tmps)=true then Oper.wp P o a w K Q else E:=by
 have hw:Region.wanted o (yielded ops a.tmps)=true:=by simp[Region.wanted,hgd]
 rw[if_pos hw];exact wp_appS ho hE hone hs hown hx hr hN hL h63 hbytes hbase h
end
