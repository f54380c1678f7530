/- Parts. -/
import Derived.Test.YtmeebofhlilcmaaGreatRows
import Derived.Lib.SmallJoins
import Derived.Deep.Slices
import Derived.Deep.Fields
import Derived.Test.YtmeebofhlilcmaaGreatPr07
import Derived.Laws.LoneSync
import Derived.Deep.WholeRow
set_option linter.unusedVariables false
set_option linter.unusedSimpArgs false
set_option maxRecDepth 100000
set_option maxHeartbeats 0
namespace Go.Proofs.YtmeebofhlilcmaaGreat
variable {w:World} {k:IntKind} {zs l:List Int} {t e:TypeId} {fuel g:Nat} {kind:Int}
open Go.RowKit Go.WideShapes Go.ChangeShapes
theorem np {a:Addr}{v:Value}(h:w.cell? a=some v):a.spot=none:=by
 unfold World.cell? at h
 split at h
 · split at h
   · cases h
   · rename_i hs;simpa using hs
 · cases h
section
variable {H:Type} {enc:TypeId × Value→H} {P:Program} {w:World} {base b0:Nat} {spare:Nat→Bool} {held:Bool} {r:Reach} {v:Value} {d:DataW H} {ps:List MemPlace}
theorem oW {x:Addr}{len:Nat}(hz:len<=zs.length)(hcell:∀ i,i<zs.length->w.cell? (x.add i)=some (.int k (zs.getD i 0))) :
 Row w (some x) len (fun i=>.int k (zs.getD i 0)):=by
 intro h0;have h:=hcell 0 aS;have hs:=np (a:=x) (by simpa [Addr.add] using h);obtain⟨b,o,s⟩:=x;simp only at hs;subst hs;refine⟨b,o,rfl,?_,fun i hi=>?_⟩
 · exact World.block_lt_of_cell? w ⟨b,o,none⟩ (by simpa [Addr.add] using h)
 · have:=hcell i aS;have hadd:(⟨b,o,none⟩:Addr).add i=⟨b,o+i,none⟩:=by unfold Addr.add;split <;> simp_all
   rwa [hadd] at this
theorem args_ints_of (ht:P.underlying t=some (.slice e))(he:P.underlying e=some (.int k))(hc:P.cellsOf e=1)(hval:Value.okWide P w r b0 t v)
 (hd:DataW.Trod enc P w base (fun _=>true) held t v d ps) :
 ∃ A n c,∃ zs:List Int,v=.slice A n c/\zs.length=n/\Row w A n (fun i=>.int k (zs.getD i 0))/\n<=c/\c<=maxLen/\(∀ z ∈ zs,(Lit.int k z).wf=true):=by
 obtain⟨a0,len,cap,rfl⟩:=okWide_slice ht hval;obtain⟨fuel,hf⟩:=hd;rcases open_ints ht he hc hf with ⟨hcs,_⟩ | ⟨x,l,c,zs,hcs,_,hl,hm,hz,_,hcell,hwz⟩
 · simp[Value.cells] at hcs;obtain⟨rfl,rfl,rfl⟩:=hcs;exact⟨none,0,0,[],rfl,rfl,Row.nil _ _ _,Nat.le_refl _,by unfold maxLen;omega,by simp⟩
 · simp[Value.cells] at hcs;obtain⟨rfl,rfl,rfl⟩:=hcs;simp only[if_true] at hz;refine⟨some x,len,cap,zs.take len,rfl,by simp;omega,(oW aS hcell).congr fun i hi=>?_,hl,hm,fun z hzm=>hwz z (List.mem_of_mem_take hzm)⟩;simp[ag,hi]
theorem args_bytes (ht:P.underlying t=some (.slice e))(he:P.underlying e=some (.int .u8))(hc:P.cellsOf e=1)(hval:Value.okWide P w r b0 t v)
 (hd:DataW.Trod enc P w base (fun _=>true) held t v d ps) :
 ∃ A n c l,v=.slice A n c/\RB w A n l/\n<=c/\c<=maxLen:=by
 obtain⟨A,n,c,zs,rfl,hlen,hrow,hnc,hm,hwf⟩:=args_ints_of ht he hc hval hd;refine⟨A,n,c,zs.map fun z=>UInt8.ofNat z.toNat,rfl,⟨by simpa using hlen,hrow.congr fun i hi=>?_⟩,hnc,hm⟩;have hi':i<zs.length:=aS;have hb:=bounds_u8 (hwf _ (List.getElem_mem hi'));simp only[bC,ag,List.getElem?_map,ap hi',Option.map_some,Option.getD_some]
 congr 1
 rw[UInt8.toNat_ofNat_of_lt' kK];omega
end
open Go.RowKit Go.WideShapes Go.ChangeShapes Go.Deep
section
variable {H:Type} {enc:TypeId × Value→H} {P:Program} {w:World} {base b0:Nat} {held:Bool} {r:Reach} {v:Value} {d:DataW H} {ps:List MemPlace}
def zsOf (w:World)(a:Addr)(n:Nat):List Int:=(List.range n).map fun q=>match w.cell? (a.add q) with | some (.int _ z)=>z | _=>0
end
open Go.RowKit Go.WideShapes Go.ChangeShapes Go.Deep Go.Joins
section
variable {H:Type} {enc:TypeId × Value→H} {P:Program} {w:World} {base b0:Nat} {held:Bool} {r:Reach} {v:Value} {d:DataW H} {ps:List MemPlace}
theorem oX {spare:Nat->Bool}{y:DataW H × List MemPlace}(ht:P.underlying t=some (.slice e))(hf:DataW.trod enc P w base spare held fuel t [v]=some y):∃ a len cap,v=.slice a len cap:=by
 rcases DataW.trod_slice ht hf with ⟨h,_⟩ | ⟨a,len,cap,_,_,_,_,h,_⟩
 · exact⟨none,0,0,by simpa using h⟩
 · exact⟨some a,len,cap,by simpa using h⟩
theorem trod_ints_of (ht:P.underlying t=some (.slice e))(he:P.underlying e=some (.int k))(hc:P.cellsOf e=1) 
  {y:DataW H × List MemPlace} (hf:DataW.trod enc P w base (fun _=>true) held fuel t [v]=some y) :
 ∃ A n c,∃ zs:List Int,v=.slice A n c/\zs.length=n/\Row w A n (fun i=>.int k (zs.getD i 0))/\n<=c/\c<=maxLen/\(∀ z ∈ zs,(Lit.int k z).wf=true):=by
 obtain⟨a0,len,cap,rfl⟩:=oX ht hf;rcases open_ints ht he hc hf with ⟨hcs,_⟩ | ⟨x,l,c,zs,hcs,_,hl,hm,hz,_,hcell,hwz⟩
 · simp at hcs;obtain⟨rfl,rfl,rfl⟩:=hcs;exact⟨none,0,0,[],rfl,rfl,Row.nil _ _ _,Nat.le_refl _,by unfold maxLen;omega,by simp⟩
 · simp at hcs;obtain⟨rfl,rfl,rfl⟩:=hcs;simp only[if_true] at hz;refine⟨some x,len,cap,zs.take len,rfl,by simp;omega,(oW aS hcell).congr fun i hi=>?_,hl,hm,fun z hzm=>hwz z (List.mem_of_mem_take hzm)⟩;simp[ag,hi]
theorem ns (ht:P.underlying t=some (.slice e))(he:P.underlying e=some (.int .i64))(hc:P.cellsOf e=1) 
  {y:DataW H × List MemPlace} (hf:DataW.trod enc P w base (fun _=>true) held fuel t [v]=some y) :
 ∃ A n c l,v=.slice A n c/\RI w A n l/\n<=c/\c<=maxLen/\(∀ z ∈ l,-9223372036854775808<=z/\z<=9223372036854775807):=by
 obtain⟨A,n,c,zs,rfl,hlen,hrow,hnc,hm,hwf⟩:=trod_ints_of ht he hc hf;exact⟨A,n,c,zs,rfl,⟨hlen,hrow⟩,hnc,hm,fun z hz=>bounds_i64 (hwf z hz)⟩
theorem oY {fs:Array Field}{k:Nat}(ht:P.underlying t=some (.slice e))(he:P.underlying e=some (.struct fs))(hone:oneCellFields P fs=true)(hC:P.cellsOf e=fs.size)(hk:fs.size=k)
 (hint:∀ (j:Nat) (f:Field),fs[j]?=some f->P.underlying f.type=some (.int .i64))  {y:DataW H × List MemPlace} (hf:DataW.trod enc P w base (fun _=>true) held fuel t [v]=some y) :
 ∃ A n c,∃ zs:List Int,v=.slice A n c/\zs.length=n * k/\Row w A (n * k) (fun i=>I (zs.getD i 0))/\n<=c/\c<=maxLen/\(∀ z ∈ zs,-9223372036854775808<=z/\z<=9223372036854775807):=by
 obtain⟨a0,len,cap,rfl⟩:=oX ht hf;subst hk;rcases open_slice ht hf with ⟨hcs,_⟩ | ⟨x,l,c,m,nf,D,Pl,hcs,_,hl,hm,hmm,_,hat⟩
 · simp at hcs;obtain⟨rfl,rfl,rfl⟩:=hcs;exact⟨none,0,0,[],rfl,by simp,by rw[Nat.zero_mul];exact Row.nil _ _ _,Nat.le_refl _,by unfold maxLen;omega,by simp⟩
 · simp at hcs;obtain⟨rfl,rfl,rfl⟩:=hcs;simp only[if_true] at hmm;have hcell:∀ q,q<len * fs.size->∃ z,w.cell? (x.add q)=some (I z)/\-9223372036854775808<=z/\z<=9223372036854775807:=by
    intro q hq;have hp:0<fs.size:=by
     rcases aH fs.size with h | h
     · rw[h,Nat.mul_zero] at hq;omega
     · exact h
    have hi:=Nat.div_lt_of_lt_mul (by rw[Nat.mul_comm];exact hq);have hj:q % fs.size<fs.size:=Nat.mod_lt _ hp;obtain⟨cells,hcells,htr⟩:=hat (q / fs.size) aS;rw[hC] at hcells;obtain⟨_,_,_,_,hlen,hys,hff⟩:=DataW.trod_struct he htr;obtain⟨_,_,hread⟩:=World.cells?_some hcells;have hlt:q % fs.size<cells.length:=by rw[hlen,hC];exact hj
    have hc:=hread (q % fs.size) hj;rw[ap hlt] at hc;have hfj:fs[q % fs.size]?=some fs[q % fs.size]:=by simp[hj]
    obtain⟨o1,k1⟩:=hone_of hone (q % fs.size) _ hfj;have h1:=hff (q % fs.size) _ hfj;rw[o1,k1,aR hlt,List.take_succ_cons,List.take_zero] at h1;obtain⟨z,hz,_,hw⟩:=DataW.trod_int (hint (q % fs.size) _ hfj) (h1.trans (ap aS));have e:q / fs.size * fs.size+q % fs.size=q:=by rw[Nat.mul_comm];exact Nat.div_add_mod q fs.size
    rw[Go.Deep.add_add,e] at hc;simp only[List.cons.injEq,and_true] at hz;rw[hz] at hc;exact⟨z,hc,bounds_i64 hw⟩
   have hget:∀ q,q<len * fs.size->∃ z,w.cell? (x.add q)=some (I z)/\(zsOf w x (len * fs.size)).getD q 0=z:=by
    intro q hq;obtain⟨z,hz,_⟩:=hcell q hq;refine⟨z,hz,?_⟩;simp[zsOf,ag,hq,hz]
   refine⟨some x,len,cap,zsOf w x (len * fs.size),rfl,by simp[zsOf],fun h0=>?_,hl,hm,fun z hz=>?_⟩
   · obtain⟨z0,h00,_⟩:=hcell 0 h0;have hs:=np (a:=x) (by simpa [Addr.add] using h00);obtain⟨b,o,s⟩:=x;simp only at hs;subst hs;refine⟨b,o,rfl,World.block_lt_of_cell? w ⟨b,o,none⟩ (by simpa [Addr.add] using h00),fun i hi=>?_⟩;obtain⟨z,hz,hg⟩:=hget i hi;have hadd:(⟨b,o,none⟩:Addr).add i=⟨b,o+i,none⟩:=by unfold Addr.add;split <;> simp_all
     rw[hadd] at hz;rw[hz];exact congrArg (fun z=>some (I z)) hg.symm
   · obtain⟨q,hq,rfl⟩:=List.mem_map.1 hz;obtain⟨z,hz',hb⟩:=hcell q (List.mem_range.1 hq);rw[hz'];exact hb
theorem open_agg {fs:Array Field}{spare:Nat->Bool}(hs:P.underlying t=some (.struct fs))(hone:oneCellFields P fs=true)(hC:P.cellsOf t=fs.size)
 (hv:Value.okWide P w r b0 t v) (h:DataW.Trod enc P w base spare held t v d ps) :
 ∃ (vs:List Value) (n:Nat),v=.agg vs.toArray/\vs.length=fs.size/\∀ (j:Nat) (f:Field),fs[j]?=some f->∃ u y,vs[j]?=some u/\DataW.trod enc P w base spare held n f.type [u]=some y:=by
 obtain⟨cs,rfl,hsz⟩:=okWide_struct hs hv;obtain⟨fuel,hf⟩:=h;obtain⟨xs,n,_,hx,_,hlen,hg⟩:=DataW.trod_struct hs hf;refine⟨cs.toList,n,rfl,by rw[Array.length_toList,hsz,hC],fun j f hj=>?_⟩;obtain⟨ho,hk⟩:=hone_of hone j f hj;have hjl:j<fs.size:=(Array.getElem?_eq_some_iff.1 hj).1;have hcl:j<cs.toList.length:=by rw[Array.length_toList,hsz,hC];exact hjl
 have h1:=hg j f hj;rw[ho,hk] at h1;have h2:((Value.agg cs).cells.toList.drop j).take 1=[cs.toList[j]]:=by
  show (cs.toList.drop j).take 1=_
  rw[aR hcl];rfl
 rw[h2] at h1;exact⟨cs.toList[j],xs[j]'aS,ap hcl,h1.trans (ap aS)⟩
end
open Go.RowKit Go.WideShapes Go.ChangeShapes Go.Deep Go.Joins
theorem list_of {α:Type}{P:Nat->α->Prop}{n:Nat}(h:∀ i,i<n->∃ x,P i x):∃ l:List α,l.length=n/\∀ k x,l[k]?=some x->P k x:=by
 induction n with
 | zero=>exact⟨[],rfl,fun k x hx=>by simp at hx⟩
 | succ n ih=>
   obtain⟨l,hl,hp⟩:=ih (fun i hi=>h i aS);obtain⟨x,hx⟩:=h n aS;refine⟨l ++ [x],by simp[hl],fun k y hy=>?_⟩;rcases aw k n with hk | hk
   · rw[aQ aS] at hy;exact hp k y hy
   · rw[aL aS] at hy;have:k - l.length=0:=by
      rcases aH (k - l.length) with q | q
      · exact q
      · rw[aE cO] at hy;cases hy
     rw[this] at hy;simp only[List.getElem?_cons_zero,Option.some.injEq] at hy;have e:k=n:=aS;subst e hy;exact hx
open Go.ChangeShapes Go.WideShapes Go.RowKit Go.Deep
theorem oZ {α:Type}{size:Nat}{enc:α->List Value}{A:Option Addr}{n:Nat}(henc:∀ x,(enc x).length=size)(h0:0<size)(mk:(Nat->Int)->α)
 (hmk:∀ g j,j<size->(enc (mk g))[j]?=some (I (g j))) (hrow:Row w A (n * size) (fun i=>I (zs.getD i 0))) :
 RdS size enc w A n ((List.range n).map fun k=>mk (fun j=>zs.getD (k * size+j) 0)):=by
 refine⟨by simp,by rw[mO henc];simp,hrow.congr fun i hi=>?_⟩;have hk:i / size<n:=Nat.div_lt_of_lt_mul (by rw[Nat.mul_comm];exact hi);have hj:i % size<size:=Nat.mod_lt _ h0;have e:i / size * size+i % size=i:=by rw[Nat.mul_comm];exact Nat.div_add_mod i size
 have h:=flat_at henc hj ((List.range n).map fun k=>mk (fun j=>zs.getD (k * size+j) 0)) (i / size) (mk (fun j=>zs.getD (i / size * size+j) 0)) (by simp[hk]);rw[e,hmk _ _ hj,e] at h;generalize List.flatMap enc _=F at *
 show _=F.getD i undef
 generalize zs.getD i 0=z at *;rw[ag,h]
 rfl
def I64 (z:Int):Prop:=-9223372036854775808<=z/\z<=9223372036854775807
structure ProgAll (p:PV):Prop where
 ins:∀ z ∈ p.ins,I64 z
 outs:∀ z ∈ p.outs,I64 z
 regs:I64 p.regs
 cells:∀ x ∈ p.cells,I64 x.1/\I64 x.2
 code:∀ x ∈ p.code,I64 x.op/\I64 x.a/\I64 x.b/\I64 x.c/\I64 x.k
theorem jI (h:∀ z ∈ zs,I64 z)(i:Nat):I64 (zs.getD i 0):=by
 rw[ag];rcases aw i zs.length with h1 | h1
 · rw[ap h1];exact h _ (List.getElem_mem h1)
 · rw[aE h1];exact⟨by decide,by decide⟩
section
variable {H:Type} {enc:TypeId × Value→H} {w:World} {base b0:Nat} {held:Bool} {r:Reach} {v:Value} {d:DataW H} {ps:List MemPlace}
theorem args_prog (hval:Value.okWide Tryz.prog w r b0 26 v)(hd:DataW.Trod enc Tryz.prog w base (fun _=>true) held 26 v d ps) :
 ∃ x p,v=.agg #[.slice x.A1 x.n1 x.c1,.slice x.A2 x.n2 x.c2,I p.regs,.slice x.A3 x.n3 x.c3,.slice x.A4 x.n4 x.c4]/\bZ w x p/\ProgAll p:=by
 obtain⟨vs,n,rfl,hlen,hf⟩:=open_agg Tryz.underlying26 bQ bQ hval hd
 match vs,hlen with
 | [v0,v1,v2,v3,v4],_=>
   obtain⟨u0,y0,e0,t0⟩:=hf 0 _ rfl;obtain⟨u1,y1,e1,t1⟩:=hf 1 _ rfl;obtain⟨u2,y2,e2,t2⟩:=hf 2 _ rfl;obtain⟨u3,y3,e3,t3⟩:=hf 3 _ rfl;obtain⟨u4,y4,e4,t4⟩:=hf 4 _ rfl;injection e0 with e0;injection e1 with e1;injection e2 with e2;injection e3 with e3;injection e4 with e4;subst e0 e1 e2 e3 e4;obtain⟨A1,n1,c1,l1,rfl,r1,k1,m1,w1⟩:=ns Tryz.underlying22 Tryz.underlying3 bQ t0;obtain⟨A2,n2,c2,l2,rfl,r2,k2,m2,w2⟩:=ns Tryz.underlying22 Tryz.underlying3 bQ t1;obtain⟨z,hz,_,hw⟩:=DataW.trod_int Tryz.underlying3 t2;have hz:v2=I z:=by simpa using hz
   subst hz;obtain⟨A3,n3,c3,l3,rfl,_,r3,k3,m3,w3⟩:=oY (k:=2) Tryz.underlying23 Tryz.underlying187 bQ bQ rfl (fun j f h=>by
    match j,h with | 0,h=>simp at h;subst h;exact Tryz.underlying3 | 1,h=>simp at h;subst h;exact Tryz.underlying3 | k+2,h=>simp at h) t3
   obtain⟨A4,n4,c4,l4,rfl,_,r4,k4,m4,w4⟩:=oY (k:=5) Tryz.underlying24 Tryz.underlying144 bQ bQ rfl (fun j f h=>by
    match j,h with | 0,h=>simp at h;subst h;exact Tryz.underlying3 | 1,h=>simp at h;subst h;exact Tryz.underlying3 | 2,h=>simp at h;subst h;exact Tryz.underlying3 | 3,h=>simp at h;subst h;exact Tryz.underlying3 | 4,h=>simp at h;subst h;exact Tryz.underlying3 | k+5,h=>simp at h) t4
   have q3:=oZ gR aS (fun g=>(g 0,g 1)) (fun g j hj=>by
    match j,hj with | 0,_=>rfl | 1,_=>rfl) r3
   have q4:=oZ gH aS (fun g=>(⟨g 0,g 1,g 2,g 3,g 4⟩:Ins)) (fun g j hj=>by
    match j,hj with | 0,_=>rfl | 1,_=>rfl | 2,_=>rfl | 3,_=>rfl | 4,_=>rfl) r4
   refine⟨⟨A1,n1,c1,A2,n2,c2,A3,n3,c3,A4,n4,c4⟩,⟨l1,l2,z,_,_⟩,rfl,⟨r1,r2,q3,q4,⟨k1,m1⟩,⟨k2,m2⟩,⟨k3,m3⟩,⟨k4,m4⟩⟩,w1,w2,bounds_i64 hw,fun x hx=>?_,fun x hx=>?_⟩
   · obtain⟨k,_,rfl⟩:=List.mem_map.1 hx;exact⟨jI w3 _,jI w3 _⟩
   · obtain⟨k,_,rfl⟩:=List.mem_map.1 hx;exact⟨jI w4 _,jI w4 _,jI w4 _,jI w4 _,jI w4 _⟩
end
open Go.ChangeShapes Go.WideShapes Go.RowKit Go.Deep
section
variable {H:Type} {enc:TypeId × Value→H} {w:World} {base b0:Nat} {held:Bool} {r:Reach} {v:Value} {d:DataW H} {ps:List MemPlace}
structure lS (s:SV):Prop where
 tick:I64 s.tick
 hash:I64 s.hash
 cells:∀ z ∈ s.cells,I64 z
end
open Go.RowKit
theorem nt {n:Int}(hn:-9223372036854775808<=n/\n<=9223372036854775807)(a b:List UInt8):fL (a ++ (nBs n ++ b)) a.length=n:=by
 unfold fL;rw[List.drop_left,List.take_left' (jv n)];unfold nBs;rw[mW _ (un_lt n),sg_un hn.1 hn.2]
theorem flat_len8 (l:List Int):(l.flatMap nBs).length=8 * l.length:=by
 induction l with
 | nil=>rfl
 | cons a l ih=>rw[List.flatMap_cons,az,ih,jv,aF];omega
theorem stBs_len (s:SV):(stBs s).length=16+8 * s.cells.length:=by
 unfold stBs;rw[az,az,jv,jv,flat_len8]
theorem numAt_flat (l:List Int)(hl:∀ z ∈ l,-9223372036854775808<=z/\z<=9223372036854775807)(a:List UInt8)(k:Nat)(hk:k<l.length):fL (a ++ l.flatMap nBs) (a.length+8 * k)=l[k]:=by
 induction l generalizing a k with
 | nil=>simp at hk
 | cons z l ih=>
   rw[List.flatMap_cons]
   cases k with
   | zero=>exact nt (hl z bj) a _
   | succ k=>
     have:=ih (fun y hy=>hl y (by simp[hy])) (a ++ nBs z) k (by simpa using hk);rw[az,jv,aN] at this;rw[show a.length+8 * (k+1)=a.length+8+8 * k by omega,this];rfl
theorem snapOf_stBs {s:SV}(ht:I64 s.tick)(hh:I64 s.hash)(hc:∀ z ∈ s.cells,I64 z):snapOf s.cells.length (stBs s)=s:=by
 have e1:fL (stBs s) 0=s.tick:=by
  have:=nt (n:=s.tick) ht [] (nBs s.hash ++ s.cells.flatMap nBs);rw[List.nil_append,<- aN] at this;exact this
 have e2:fL (stBs s) 8=s.hash:=by
  have:=nt (n:=s.hash) hh (nBs s.tick) (s.cells.flatMap nBs);rw[<- aN,jv] at this;exact this
 have e3:gp (stBs s) s.cells.length=s.cells:=by
  apply List.ext_getElem
  · simp[gp]
  intro k h1 h2;have:=numAt_flat s.cells hc (nBs s.tick ++ nBs s.hash) k h2;rw[az,jv,jv] at this;have e:(gp (stBs s) s.cells.length)[k]=fL (stBs s) (16+8 * k):=by
   simp only[gp,List.getElem_map,List.getElem_range]
  rw[e];exact this
 obtain⟨t,h,c⟩:=s;unfold snapOf;simp only at e1 e2 e3;rw[e1,e2,e3]
theorem aadd_any (g k:Nat)(x y:Int)(w:World)(hc:w.cell? ⟨g,k,none⟩=some (I x))(hz:w.frozen? ⟨g,k,none⟩=false) :
 Ca 305 #[.pointer (some ⟨g,k,none⟩),I y] w fun e w'=>e=.returned (I (wrap64 (x+y)))/\w.setCell ⟨g,k,none⟩ (I (wrap64 (x+y)))=w':=by
 have hl:=run_call_add (P:=Tryz.prog) Tryz.func320 bQ bQ bQ .i64 bQ (y:=y) (s:=wrap64 (x+y)) hc hz (by simp[go_sem,wrap64,IntKind.wrap_i64]);generalize wrap64 (x+y)=z at *;go_enter Tryz.func305,Tryz.ntmps305;go_wp2;go_ret;exact⟨rfl,rfl⟩
theorem has_yes (g:Nat)(kind:Int)(w:World)(h1:1<=kind)(h2:kind<=6):Ca 304 #[.pointer (some ⟨g,0,none⟩),I kind] w fun e w'=>e=.returned (.bool true)/\w=w':=by
 go_enter Tryz.func304,Tryz.ntmps304;go_wp2;go_ret;exact⟨rfl,rfl⟩
theorem has_no (g:Nat)(kind:Int)(w:World)(h:¬ (1<=kind/\kind<=6)):Ca 304 #[.pointer (some ⟨g,0,none⟩),I kind] w fun e w'=>e=.returned (.bool false)/\w=w':=by
 have h':kind<1\/(1<=kind/\6<kind):=aS;clear h;rcases h' with h | ⟨h1,h2⟩
 all_goals
  go_enter Tryz.func304,Tryz.ntmps304;go_wp2;go_ret;exact⟨cV (by first | (simp;done) | (simp;omega)),rfl⟩
theorem has_nil (kind:Int)(w:World):Ca 304 #[.pointer none,I kind] w fun e w'=>e=.returned (.bool false)/\w=w':=by
 go_enter Tryz.func304,Tryz.ntmps304;go_wp2;go_ret;exact⟨rfl,rfl⟩
def ee (w:World)(g:Nat)(l:List Int):Prop:=l.length=6/\Blk w g 300 (l.map iv)
def mPut (l:List Int)(kind x:Int):List Int:=l.set (kind - 1).toNat x
def mGet (l:List Int)(kind:Int):Int:=l.getD (kind - 1).toNat 0
theorem mPut_len (l:List Int)(kind x:Int):(mPut l kind x).length=l.length:=by simp[mPut]
theorem ee.cell (h:ee w g l)(k:Nat)(hk:k<6):w.cell? ⟨g,k,none⟩=some (I (mGet l ((k:Int)+1))):=by
 rw[h.2.cell];have:k<l.length:=by rw[h.1];exact hk
 unfold mGet iv;rw[show ((k:Int)+1 - 1).toNat=k from by omega];simp[ag,this]
theorem ee.put (h:ee w g l)(k:Nat)(x:Int):ee (w.setCell ⟨g,k,none⟩ (I x)) g (mPut l ((k:Int)+1) x):=by
 refine⟨by rw[mPut_len];exact h.1,?_⟩;unfold mPut;rw[show ((k:Int)+1 - 1).toNat=k from by omega,List.map_set];exact h.2.set_ k _
theorem newmeter_any (w:World):Ca 117 #[] w fun e w'=>e=.returned (.pointer (some ⟨w.heap.size,0,none⟩))/\ee w' w.heap.size [0,0,0,0,0,0]/\Below w.heap.size w w'/\w'.heap.size=w.heap.size+1:=by
 have hbu:∀ w:World,(Instr.build 300 #[]).run Tryz.prog w=.ok (.agg #[I 0,I 0,I 0,I 0,I 0,I 0]) w:=fun w=>run_build w _ _ _ bQ
 go_enter Tryz.func117,Tryz.ntmps117;go_wp2;go_ret;exact⟨rfl,⟨rfl,Blk.top _ rfl rfl⟩,be,by simp⟩
theorem add_yes (g:Nat)(l:List Int)(kind n:Int)(w:World)(hm:ee w g l)(h1:1<=kind)(h2:kind<=6) :
 Ca 285 #[.pointer (some ⟨g,0,none⟩),I kind,I n] w fun e w'=>e=.returned (.bool true)/\ee w' g (mPut l kind (wrap64 (mGet l kind+n)))/\w.grownBy w' (some g)/\w'.heap.size=w.heap.size:=by
 obtain⟨k,rfl⟩:∃ k:Nat,kind=(k:Int)+1:=⟨(kind - 1).toNat,aS⟩;have hk:k<6:=aS;have hc:=hm.cell k hk;have hz:=hm.2.frozen k;have hp:=fun x=>aT (hm.put k x)
 generalize mGet l ((k:Int)+1)=x at *;have hput:=hp;clear hp;go_enter Tryz.func285,Tryz.ntmps285;go_wp2_with (first | (go_at_call 304;go_call (has_yes _ _ _ h1 h2) as e w1 ⟨rfl,rfl⟩) | (go_at_call 305;go_call (aadd_any _ _ _ _ _ hc hz) as e w1 ⟨rfl,rfl⟩));go_ret;exact⟨rfl,(hput _).out,ec _,by simp[World.setCell]⟩
def NoKind (A:Option Addr)(kind:Int):Prop:=(∃ g,A=some ⟨g,0,none⟩/\¬ (1<=kind/\kind<=6))\/A=none
theorem has_not (A:Option Addr)(kind:Int)(w:World)(h:NoKind A kind):Ca 304 #[.pointer A,I kind] w fun e w'=>e=.returned (.bool false)/\w=w':=by
 rcases h with ⟨g,rfl,h⟩ | rfl
 · exact has_no g kind w h
 · exact has_nil kind w
theorem add_no (A:Option Addr)(kind n:Int)(w:World)(h:NoKind A kind):Ca 285 #[.pointer A,I kind,I n] w fun e w'=>e=.returned (.bool false)/\w=w':=by
 go_enter Tryz.func285,Tryz.ntmps285;go_wp2_with (go_at_call 304;go_call (has_not _ _ _ h) as e w1 ⟨rfl,rfl⟩);go_ret;exact⟨rfl,rfl⟩
theorem ee.alloc (h:ee w g l)(o:Obj):ee (w.alloc o) g l:=⟨h.1,h.2.alloc o⟩
def inK (kind:Int):Bool:=decide (1<=kind/\kind<=6)
def mAdd (l:List Int)(kind n:Int):List Int:=if inK kind then mPut l kind (wrap64 (mGet l kind+n)) else l
theorem inK_yes (h:inK kind=true):1<=kind/\kind<=6:=by simpa [inK] using h
theorem inK_no (h:inK kind=false):NoKind (some ⟨g,0,none⟩) kind:=.inl ⟨g,rfl,by simpa [inK] using h⟩
theorem add_any (g:Nat)(l:List Int)(kind n:Int)(w:World)(hm:ee w g l) :
 Ca 285 #[.pointer (some ⟨g,0,none⟩),I kind,I n] w fun e w'=>e=.returned (.bool (inK kind))/\ee w' g (mAdd l kind n)/\w.grownBy w' (some g)/\w'.heap.size=w.heap.size:=by
 cases h:inK kind with
 | true=>unfold mAdd;rw[if_pos h];exact add_yes g l kind n w hm (inK_yes h).1 (inK_yes h).2
 | false=>unfold mAdd;rw[if_neg (by simp[h])];exact (add_no _ kind n w (inK_no h)).mono fun e w' ⟨he,hw⟩=>by subst hw;exact⟨he,hm,World.grownBy.refl _ _,rfl⟩
