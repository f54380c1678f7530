/- Parts. -/
import Derived.Test.YtmeebofhlilcmaaGreatPr15
import Derived.IntWalk
set_option linter.unusedVariables false
set_option linter.unusedSimpArgs false
set_option maxRecDepth 100000
set_option maxHeartbeats 0
namespace Go.Proofs.YtmeebofhlilcmaaGreat
variable {p:PV} {cells ins l:List Int} {i base n c gr:Nat} {r:Int} {t:TypeId}
open Go.RowKit
structure VS where
 regs:List Int
 next:List Int
 out:List Int
 steps:Nat
variable {s:VS}
def atK (l:List Int)(n:Int):Int:=bj l n.toNat
def putK (l:List Int)(n v:Int):List Int:=l.set n.toNat v
def giveK (cells ins:List Int)(x:Ins)(r:List Int):Int :=
 if x.op=3 then atK r x.b
 else if x.op=5\/x.op=6 then oneK x.op (atK r x.b)
 else if x.op=27 then (if atK r x.b≠0 then atK r x.c else atK r x.k)
 else if x.op=21 then atK cells x.k
 else if x.op=28 then atK ins x.k
 else if 7<=x.op/\x.op<=20 then doK x.op (atK r x.b) (atK r x.c)
 else x.k
def iU (x:Ins)(r:List Int):Nat:=if (x.op=30/\atK r x.a=0)\/(x.op=31/\atK r x.a≠0) then x.k.toNat else 0
def dO (cells ins:List Int)(x:Ins)(s:VS):VS :=
 if x.op=29 then { s with out:=putK s.out x.k (atK s.regs x.a),steps:=s.steps+1 }
 else if x.op=32 then { s with next:=putK s.next x.k (atK s.regs x.a),steps:=s.steps+1 }
 else if x.op=30\/x.op=31 then { s with steps:=s.steps+1 }
 else { s with regs:=putK s.regs x.a (giveK cells ins x s.regs),steps:=s.steps+1 }
def runV (p:PV)(cells ins:List Int):Nat->Nat->VS->VS
 | 0,_,s=>s
 | n+1,i,s=>if i<p.code.length then runV p cells ins n (i+1+iU (aY p.code i) s.regs) (dO cells ins (aY p.code i) s) else s
def goV (p:PV)(cells ins:List Int)(i:Nat)(s:VS):VS:=runV p cells ins p.code.length i s
theorem runV_more (p:PV)(cells ins:List Int):∀ (n m i:Nat) (s:VS),p.code.length<=n+i->p.code.length<=m+i->runV p cells ins n i s=runV p cells ins m i s:=by
 intro n
 induction n with
 | zero=>
   intro m i s h1 h2
   cases m with
   | zero=>rfl
   | succ m=>unfold runV;rw[if_neg aS]
 | succ n ih=>
   intro m i s h1 h2
   cases m with
   | zero=>unfold runV;rw[if_neg aS]
   | succ m=>
     unfold runV
     by_cases hi:i<p.code.length
     · rw[if_pos hi,if_pos hi];exact ih m _ _ aS aS
     · rw[if_neg hi,if_neg hi]
theorem goV_step (hi:i<p.code.length):goV p cells ins i s=goV p cells ins (i+1+iU (aY p.code i) s.regs) (dO cells ins (aY p.code i) s):=by
 unfold goV;rw[runV_more p cells ins p.code.length (p.code.length+1) i s aS aS]
 show (if i<p.code.length then _ else s)=_
 rw[if_pos hi]
theorem goV_end (hi:p.code.length<=i):goV p cells ins i s=s:=by
 unfold goV;rw[runV_more p cells ins p.code.length 0 i s aS aS]
 rfl
def ia (p:PV)(cells:List Int):Bool:=decide (cells.length=p.cells.length) && allK p.cells.length (fun i=>okAt (db p.cells i).1 (bj cells i))
def eP (p:PV)(cells:List Int):VS:=⟨List.replicate p.regs.toNat 0,cells,List.replicate p.outs.length 0,0⟩
def eQ (p:PV)(cells ins:List Int):List Int × List Int × Nat × Int :=
 if (ia p cells && cx p.ins ins)=true then ((goV p cells ins 0 (eP p cells)).next,(goV p cells ins 0 (eP p cells)).out,(goV p cells ins 0 (eP p cells)).steps,0) else ([],[],0,41)
def fq (p:PV):List Int:=p.cells.map (·.2)
def fQ (l:List (List Int))(i:Nat):List Int:=l.getD i []
def de (p:PV)(rows:List (List Int)):Nat->List Int
 | 0=>fq p
 | t+1=>(eQ p (de p rows t) (fQ rows t)).1
def dH (p:PV)(rows:List (List Int))(t:Nat):List Int:=(eQ p (de p rows t) (fQ rows t)).2.1
def cq (p:PV)(rows:List (List Int))(n:Nat):List (List Int):=(List.range n).map (dH p rows)
theorem og (p:PV)(rows:List (List Int))(n:Nat):cq p rows n ++ [dH p rows n]=cq p rows (n+1):=by unfold cq;rw[List.range_succ,List.map_append];rfl
structure InsSafe (p:PV)(i:Nat)(x:Ins):Prop where
 a0:0<=x.a
 a1:x.a<p.regs
 b:x.op=3\/(5<=x.op/\x.op<=20)\/x.op=27->0<=x.b/\x.b<p.regs
 c:(7<=x.op/\x.op<=20)\/x.op=27->0<=x.c/\x.c<p.regs
 k27:x.op=27->(0<=x.k/\x.k<p.regs)/\x.a≠x.b/\x.a≠x.c
 k21:x.op=21\/x.op=32->0<=x.k/\x.k<(p.cells.length:Int)
 k28:x.op=28->0<=x.k/\x.k<(p.ins.length:Int)
 k29:x.op=29->0<=x.k/\x.k<(p.outs.length:Int)
 k30:x.op=30\/x.op=31->0<=x.k/\x.k<=(p.code.length:Int) - 1 - (i:Int)
 ab:x.op=3\/(5<=x.op/\x.op<=20)\/x.op=27->x.a≠x.b
 ac:(7<=x.op/\x.op<=20)\/x.op=27->x.a≠x.c
 ak:x.op=27->x.a≠x.k
 op:x.op=1\/x.op=2\/x.op=3\/(5<=x.op/\x.op<=20)\/x.op=21\/x.op=27\/x.op=28\/x.op=29\/x.op=30\/x.op=31\/x.op=32
theorem iI (h:bG p i r≠0):0<=r/\r<p.regs/\dd p i r=bG p i r:=by
 unfold bG at h ⊢
 by_cases q:r<0\/p.regs<=r
 · rw[if_pos q] at h;exact absurd rfl h
 · rw[if_neg q];exact⟨aS,aS,rfl⟩
section
variable {p:PV} {i:Nat}
theorem oj (h:okR p i=true):du p i (aY p.code i)=true/\(29<=(aY p.code i).op\/((aY p.code i).a<p.regs/\dd p i (aY p.code i).a=0/\(cZ p (bG p i) (aY p.code i)=1\/cZ p (bG p i) (aY p.code i)=2))):=by
 unfold okR at h;simp only[av,Bool.or_eq_true,aq] at h;exact⟨h.1,h.2.1⟩
theorem jK (h:dF p=true):mayB p=true/\∀ i,i<p.code.length->okR p i=true:=by
 rw[verify_is] at h;unfold j9 at h;simp only[av,List.all_eq_true,List.mem_range] at h;exact⟨h.1,fun i hi=>h.2.1 i hi⟩
theorem mB (op:Int)(h:5<=op/\op<=20):fC op=true:=am h
theorem fL {op:Int}(h:op<5\/20<op):fC op=false:=aj aS
theorem safe_of (h:dF p=true)(hi:i<p.code.length):InsSafe p i (aY p.code i):=by
 obtain⟨hm,hok⟩:=jK h;obtain⟨m1,m2,m3,m4,m5,m6,m7,m8⟩:=dV.1 hm;have hio:=of_decide_eq_true (m8 i hi);obtain⟨o1,o2,o3,o4,o5,o6,o7⟩:=hio;obtain⟨t,g⟩:=oj (hok i hi);have hop:(aY p.code i).op=1\/(aY p.code i).op=2\/(aY p.code i).op=3\/(5<=(aY p.code i).op/\(aY p.code i).op<=20)\/(aY p.code i).op=21\/(aY p.code i).op=27\/(aY p.code i).op=28\/(aY p.code i).op=29\/(aY p.code i).op=30\/(aY p.code i).op=31\/(aY p.code i).op=32:=by
  rcases lv (aY p.code i).op with q | q | q | q | q
  · omega
  · omega
  · omega
  · omega
  · exact absurd (cls_0 q) o1
 have outT:∀ k:Int,0<=k->k<(p.outs.length:Int)->kAt p.outs k≠0:=fun k h0 h1 e=>by
  have:=(fG.1 m2).1 k.toNat aS;unfold kAt at e;rw[if_neg aS] at e;unfold bj at this;omega
 have cellT:∀ k:Int,0<=k->k<(p.cells.length:Int)->(db p.cells k.toNat).1≠0:=fun k h0 h1 e=>by
  have:=m7 k.toNat aS;unfold fN at this;rw[e] at this;simp at this
 generalize aY p.code i=x at *;have a1:x.a<p.regs:=by
  rcases g with g | g
  · unfold du at t;rw[fL aS,if_neg aZ,if_neg aS,if_neg aS,if_neg aS] at t
    by_cases q:x.op=29
    · rw[if_pos q] at t;simp only[av,aq] at t;have:=outT x.k t.1 t.2.1;exact (iI (by rw[t.2.2];exact this)).2.1
    · rw[if_neg q] at t
      by_cases q2:x.op=32
      · rw[if_pos q2] at t;simp only[av,aq] at t;have:=cellT x.k t.1 t.2.1;exact (iI (by rw[t.2.2];exact this)).2.1
      · rw[if_neg q2,if_pos aS] at t;simp only[av,aq] at t;exact (iI (by rw[t.2.2];decide)).2.1
  · exact g.1
 have tb:x.op=3\/(5<=x.op/\x.op<=20)\/x.op=27->bG p i x.b≠0:=fun q=>by
  unfold du at t;rcases q with q | q | q
  · rw[fL aS,if_neg aZ,if_neg aS,if_pos q] at t;exact of_decide_eq_true t
  · rw[mB _ q,if_pos rfl] at t;simp only[av,aq] at t;exact t.1
  · rw[fL aS,if_neg aZ,if_neg aS,if_neg aS,if_pos q] at t;simp only[av,aq] at t;rw[t.1];decide
 have tc:(7<=x.op/\x.op<=20)\/x.op=27->bG p i x.c≠0:=fun q=>by
  unfold du at t;rcases q with q | q
  · rw[mB _ aS,if_pos rfl] at t;simp only[av,Bool.or_eq_true,aq] at t;rcases t.2.2 with e | e
    · omega
    · rw[e];exact t.1
  · rw[fL aS,if_neg aZ,if_neg aS,if_neg aS,if_pos q] at t;simp only[av,aq] at t;exact t.2.1
 have tkk:x.op=27->bG p i x.k≠0:=fun q=>by
  unfold du at t;rw[fL aS,if_neg aZ,if_neg aS,if_neg aS,if_pos q] at t;simp only[av,aq] at t;rw[t.2.2];exact t.2.1
 have nea:x.op<29->∀ r,bG p i r≠0->x.a≠r:=fun q r hr e=>by
  have g0:dd p i x.a=0:=by
   rcases g with g | g
   · omega
   · exact g.2.1
  rw[e,(iI hr).2.2] at g0;exact hr g0
 refine⟨o2,a1,fun q=>⟨(iI (tb q)).1,(iI (tb q)).2.1⟩,fun q=>⟨(iI (tc q)).1,(iI (tc q)).2.1⟩,fun q=>⟨⟨(iI (tkk q)).1,(iI (tkk q)).2.1⟩,nea aS _ (tb (.inr (.inr q))),nea aS _ (tc (.inr q))⟩,fun q=>?_,fun q=>?_,fun q=>?_,fun q=>?_,fun q=>nea aS _ (tb q),fun q=>nea aS _ (tc q),fun q=>nea aS _ (tkk q),hop⟩
 · rcases q with q | q
   · rcases g with g | g
     · omega
     · refine Decidable.byContradiction fun hc=>?_
       have:cZ p (bG p i) x=0:=by
        unfold cZ;rw[fL aS,if_neg aZ,if_neg aS,if_neg aS,if_neg aS,if_neg aS,if_neg aS]
       omega
   · unfold du at t;rw[fL aS,if_neg aZ,if_neg aS,if_neg aS,if_neg aS,if_neg aS,if_pos q] at t;simp only[av,aq] at t;exact⟨t.1,t.2.1⟩
 · rcases g with g | g
   · omega
   · refine Decidable.byContradiction fun hc=>?_
     have:cZ p (bG p i) x=0:=by
      unfold cZ;rw[fL aS,if_neg aZ,if_neg aS,if_neg aS,if_neg aS,if_neg aS,if_neg aS]
     omega
 · unfold du at t;rw[fL aS,if_neg aZ,if_neg aS,if_neg aS,if_neg aS,if_pos q] at t;simp only[av,aq] at t;exact⟨t.1,t.2.1⟩
 · unfold du at t;rw[fL aS,if_neg aZ,if_neg aS,if_neg aS,if_neg aS,if_neg aS,if_neg aS,if_pos q] at t;simp only[av,aq] at t;exact⟨t.1,t.2.1⟩
end
structure VOk (p:PV)(s:VS):Prop where
 rl:(s.regs.length:Int)=p.regs
 nl:s.next.length=p.cells.length
 ol:s.out.length=p.outs.length
 rr:∀ z ∈ s.regs,In64 z
 nr:∀ z ∈ s.next,In64 z
 or_:∀ z ∈ s.out,In64 z
theorem ki (h:∀ z ∈ l,In64 z)(n:Int):In64 (atK l n):=by
 unfold atK bj;rw[ah]
 by_cases q:n.toNat<l.length
 · rw[ap q];exact h _ (List.getElem_mem q)
 · rw[aK aS];unfold In64;simp
theorem putK_in (h:∀ z ∈ l,In64 z)(n:Int){v:Int}(hv:In64 v):∀ z ∈ putK l n v,In64 z:=fun z hz=>by
 rcases List.mem_or_eq_of_mem_set hz with q | q
 · exact h z q
 · rw[q];exact hv
theorem giveK_in {x:Ins}{r:List Int}(hr:∀ z ∈ r,In64 z)(hc:∀ z ∈ cells,In64 z)(hi:∀ z ∈ ins,In64 z)(hk:In64 x.k):In64 (giveK cells ins x r):=by
 unfold giveK
 repeat' (with_reducible refine in_ite ?_ ?_)
 all_goals first | exact ki hr _ | exact ki hc _ | exact ki hi _ | exact oneK_in _ _ | exact doK_in (ki hr _) | exact hk
theorem VOk.exec (h:VOk p s){x:Ins}(hc:∀ z ∈ cells,In64 z)(hi:∀ z ∈ ins,In64 z)(hk:In64 x.k):VOk p (dO cells ins x s):=by
 unfold dO
 split
 · exact⟨h.rl,h.nl,by simp[putK,h.ol],h.rr,h.nr,putK_in h.or_ _ (ki h.rr _)⟩
 · split
   · exact⟨h.rl,by simp[putK,h.nl],h.ol,h.rr,putK_in h.nr _ (ki h.rr _),h.or_⟩
   · split
     · exact⟨h.rl,h.nl,h.ol,h.rr,h.nr,h.or_⟩
     · exact⟨by simp[putK,h.rl],h.nl,h.ol,putK_in h.rr _ (giveK_in h.rr hc hi hk),h.nr,h.or_⟩
theorem VOk.start (hr:0<=p.regs)(hl:cells.length=p.cells.length)(hc:∀ z ∈ cells,In64 z):VOk p (eP p cells):=by
 have hz:∀ n,∀ z ∈ List.replicate n (0:Int),In64 z:=fun n z hz=>by rw[(List.mem_replicate.1 hz).2];unfold In64;omega
 exact⟨by simp[eP];omega,hl,by simp[eP],hz _,hc,hz _⟩
structure VTy (p:PV)(s:VS):Prop where
 r:∀ r:Int,0<=r->dd p p.code.length r=2->atK s.regs r=0\/atK s.regs r=1
 n:∀ k:Int,0<=k->(db p.cells k.toNat).1=2->atK s.next k=0\/atK s.next k=1
 o:∀ k:Int,0<=k->kAt p.outs k=2->atK s.out k=0\/atK s.out k=1
theorem atK_put {n k v:Int}(h0:0<=n)(hk:0<=k)(h1:n<(l.length:Int)):atK (putK l n v) k=if k=n then v else atK l k:=by
 unfold atK putK bj;rw[ah,ah,List.getElem?_set]
 by_cases h:k=n
 · subst h;rw[if_pos rfl,if_pos aS,if_pos rfl];rfl
 · rw[if_neg aS,if_neg h]
theorem kind_later (hok:∀ i,i<p.code.length->okR p i=true)(h:dd p i r≠0):∀ m,i+m<=p.code.length->dd p (i+m) r=dd p i r:=by
 intro m
 induction m with
 | zero=>intro _;rfl
 | succ m ih=>
   intro hm;have e:=ih aS;rw[show i+(m+1)=(i+m)+1 by omega,ip]
   by_cases q:29<=(aY p.code (i+m)).op\/(aY p.code (i+m)).a≠r
   · rw[if_pos q];exact e
   · obtain⟨_,g⟩:=oj (hok (i+m) aS);rcases g with g | g
     · exact absurd (.inl g) q
     · have e3:(aY p.code (i+m)).a=r:=aS;rw[e3,e] at g;exact absurd g.2.1 h
theorem pN (hok:∀ i,i<p.code.length->okR p i=true)(hi:i<=p.code.length)(h:dd p i r≠0):dd p p.code.length r=dd p i r:=by
 have:=kind_later hok h (p.code.length - i) aS;rw[show i+(p.code.length - i)=p.code.length by omega] at this;exact this
theorem taken_final (hok:∀ i,i<p.code.length->okR p i=true)(hi:i<=p.code.length)(h:bG p i r=2):0<=r/\dd p p.code.length r=2:=by
 obtain⟨h0,_,h2⟩:=iI (show bG p i r≠0 by rw[h];decide);exact⟨h0,by rw[pN hok hi (by rw[h2,h];decide),h2,h]⟩
theorem flagK_01 (b:Bool):eI b=0\/eI b=1:=by cases b <;> simp[eI]
theorem ite_01 {c:Prop} [Decidable c]{a b:Int}(h1:a=0\/a=1)(h2:b=0\/b=1):(if c then a else b)=0\/(if c then a else b)=1:=by split <;> assumption
theorem VTy.exec (hv:dF p=true)(h:VTy p s)(ho:VOk p s)(hi:i<p.code.length)
 (hc:∀ k:Int,0<=k->(db p.cells k.toNat).1=2->atK cells k=0\/atK cells k=1) (hin:∀ k:Int,0<=k->kAt p.ins k=2->atK ins k=0\/atK ins k=1):VTy p (dO cells ins (aY p.code i) s):=by
 have hs:=safe_of hv hi;obtain⟨hm,hok⟩:=jK hv;obtain⟨t,g⟩:=oj (hok i hi);have hkx:(aY p.code i).op<29->dd p p.code.length (aY p.code i).a=cZ p (bG p i) (aY p.code i):=fun q=>by
  rcases g with g | g
  · omega
  · have e:dd p (i+1) (aY p.code i).a=cZ p (bG p i) (aY p.code i):=by
     rw[ip,if_neg aS,if_neg (by rw[g.2.1];decide)]
    rw[pN hok (i:=i+1) aS (by rw[e];omega),e]
 have tf:=fun {r:Int} (q:bG p i r=2)=>taken_final hok (Nat.le_of_lt hi) q
 generalize aY p.code i=x at *;unfold dO
 split
 · rename_i q;obtain⟨k0,k1⟩:=hs.k29 q;refine⟨h.r,h.n,fun k hk e=>?_⟩
   show atK (putK s.out x.k _) k=0\/atK (putK s.out x.k _) k=1
   rw[atK_put k0 hk (by rw[ho.ol];exact k1)]
   by_cases q2:k=x.k
   · rw[if_pos q2];unfold du at t;rw[fL aS,if_neg aZ,if_neg aS,if_neg aS,if_neg aS,if_pos q] at t;simp only[av,aq] at t;obtain⟨e0,e1⟩:=tf (t.2.2.trans (by rw[<- q2];exact e));exact h.r _ e0 e1
   · rw[if_neg q2];exact h.o k hk e
 · split
   · rename_i q;obtain⟨k0,k1⟩:=hs.k21 (.inr q);refine⟨h.r,fun k hk e=>?_,h.o⟩
     show atK (putK s.next x.k _) k=0\/atK (putK s.next x.k _) k=1
     rw[atK_put k0 hk (by rw[ho.nl];exact k1)]
     by_cases q2:k=x.k
     · rw[if_pos q2];unfold du at t;rw[fL aS,if_neg aZ,if_neg aS,if_neg aS,if_neg aS,if_neg aS,if_pos q] at t;simp only[av,aq] at t;obtain⟨e0,e1⟩:=tf (t.2.2.trans (by rw[<- q2];exact e));exact h.r _ e0 e1
     · rw[if_neg q2];exact h.n k hk e
   · split
     · exact⟨h.r,h.n,h.o⟩
     · rename_i q29 q32 q30;have hop:=hs.op;refine⟨fun r hr e=>?_,h.n,h.o⟩
       show atK (putK s.regs x.a _) r=0\/atK (putK s.regs x.a _) r=1
       rw[atK_put hs.a0 hr (by rw[ho.rl];exact hs.a1)]
       by_cases q2:r=x.a
       · rw[if_pos q2];rw[q2,hkx aS] at e;unfold cZ at e;unfold du at t;unfold giveK
         by_cases c3:x.op=3
         · rw[fL aS,if_neg aZ,if_neg aS,if_pos c3] at e;rw[if_pos c3];obtain⟨e0,e1⟩:=tf e;exact h.r _ e0 e1
         · rw[if_neg c3]
           by_cases c5:x.op=5\/x.op=6
           · rw[if_pos c5];rw[mB _ aS,if_pos rfl] at e;rcases c5 with c5 | c5
             · rw[c5] at e;exact absurd e aU
             · unfold oneK;rw[if_neg aS,if_pos c5];exact flagK_01 _
           · rw[if_neg c5]
             by_cases c27:x.op=27
             · rw[if_pos c27];rw[fL aS,if_neg aZ,if_neg aS,if_neg aS,if_pos c27] at t;rw[fL aS,if_neg aZ,if_neg aS,if_neg aS,if_pos c27] at e;simp only[av,aq] at t;obtain⟨e0,e1⟩:=tf e;obtain⟨f0,f1⟩:=tf (t.2.2.trans e)
               split
               · exact h.r _ e0 e1
               · exact h.r _ f0 f1
             · rw[if_neg c27]
               by_cases c21:x.op=21
               · obtain⟨k0,k1⟩:=hs.k21 (.inl c21);rw[fL aS,if_neg aZ,if_neg aS,if_neg aS,if_neg aS,if_pos ⟨c21,k0,k1⟩] at e;rw[if_pos c21];exact hc _ k0 e
               · rw[if_neg c21]
                 by_cases c28:x.op=28
                 · obtain⟨k0,k1⟩:=hs.k28 c28;rw[fL aS,if_neg aZ,if_neg aS,if_neg aS,if_neg aS,if_neg aS,if_pos ⟨c28,k0,k1⟩] at e;rw[if_pos c28];exact hin _ k0 e
                 · rw[if_neg c28]
                   by_cases c7:7<=x.op/\x.op<=20
                   · rw[if_pos c7];rw[mB _ aS,if_pos rfl] at e;have c12:12<=x.op:=by unfold fB at e;split at e <;> omega
                     unfold doK;rw[if_neg aS,if_neg aS,if_neg aS,if_neg aS,if_neg aS]
                     repeat' (with_reducible refine ite_01 ?_ ?_)
                     all_goals first | exact flagK_01 _ | exact .inl rfl
                   · rw[if_neg c7];rw[fL aS,if_neg aZ,if_pos aS] at e;rw[fL aS,if_neg aZ,if_pos e] at t;simp only[Bool.or_eq_true,aq] at t;exact t
       · rw[if_neg q2];exact h.r r hr e
theorem runV_ok (hv:dF p=true)(hw:eO p)(hc:∀ k:Int,0<=k->(db p.cells k.toNat).1=2->atK cells k=0\/atK cells k=1)(hin:∀ k:Int,0<=k->kAt p.ins k=2->atK ins k=0\/atK ins k=1)
 (hc64:∀ z ∈ cells,In64 z) (hi64:∀ z ∈ ins,In64 z):∀ (n i:Nat) (s:VS),VOk p s->VTy p s->VOk p (runV p cells ins n i s)/\VTy p (runV p cells ins n i s):=by
 intro n
 induction n with
 | zero=>intro i s h1 h2;exact⟨h1,h2⟩
 | succ n ih=>
   intro i s h1 h2;unfold runV
   split
   · rename_i hi;have hk:In64 (aY p.code i).k:=by
      have e:=ap hi;have:=hw.code _ (List.getElem_mem hi);rw[gY e];exact⟨this.2.2.2.1,this.2.2.2.2⟩
     exact ih _ _ (h1.exec hc64 hi64 hk) (h2.exec hv h1 hi hc hin)
   · exact⟨h1,h2⟩
theorem iV :ia p cells=true ↔ cells.length=p.cells.length/\∀ i,i<p.cells.length->okAt (db p.cells i).1 (bj cells i)=true:=by
 unfold ia;simp only[av,je,aq]
theorem mC (hv:dF p=true)(hw:eO p)(h1:ia p cells=true)(h2:cx p.ins ins=true)(hc64:∀ z ∈ cells,In64 z)(hi64:∀ z ∈ ins,In64 z) :
 (eQ p cells ins).2.2.2=0/\ia p (eQ p cells ins).1=true/\cx p.outs (eQ p cells ins).2.1=true/\(∀ z ∈ (eQ p cells ins).1,In64 z)/\(∀ z ∈ (eQ p cells ins).2.1,In64 z):=by
 have hm:=(jK hv).1;obtain⟨m1,m2,m3,m4,m5,m6,m7,m8⟩:=dV.1 hm;obtain⟨c1,c2⟩:=iV.1 h1;obtain⟨f1,f2,f3⟩:=jC.1 h2;have hc:∀ k:Int,0<=k->(db p.cells k.toNat).1=2->atK cells k=0\/atK cells k=1:=fun k h0 e=>by
  by_cases q:k.toNat<p.cells.length
  · exact jR.1 (c2 k.toNat q) e
  · left;unfold atK bj;rw[ah,aK aS];rfl
 have hin:∀ k:Int,0<=k->kAt p.ins k=2->atK ins k=0\/atK ins k=1:=fun k h0 e=>by
  unfold kAt at e;rw[if_neg aS] at e
  by_cases q:k.toNat<p.ins.length
  · exact f3 k.toNat q e
  · left;unfold atK bj;rw[ah,aK aS];rfl
 have z0:∀ (n:Nat) (k:Int),atK (List.replicate n 0) k=0:=fun n k=>by
  unfold atK bj;rw[ah,List.getElem?_replicate]
  split <;> rfl
 have ht:VTy p (eP p cells):=⟨fun r _ _=>.inl (z0 _ _),fun k h0 e=>hc k h0 e,fun k _ _=>.inl (z0 _ _)⟩;obtain⟨r1,r2⟩:=runV_ok hv hw hc hin hc64 hi64 p.code.length 0 (eP p cells) (VOk.start m3 c1 hc64) ht;unfold eQ;rw[if_pos (by rw[h1,h2];rfl)];refine⟨rfl,iV.2 ⟨r1.nl,fun i hi=>jR.2 (fun e=>?_)⟩,jC.2 ⟨m2,r1.ol,fun i hi e=>?_⟩,r1.nr,r1.or_⟩
 · have:=r2.n (i:Int) aS (by rw[ax];exact e);unfold atK at this;rw[ax] at this;exact this
 · have:=r2.o (i:Int) aS (by unfold kAt;rw[if_neg aS,ax];exact e);unfold atK at this;rw[ax] at this;exact this
theorem pO (hm:mayB p=true)(hw:eO p):ia p (fq p)=true/\∀ z ∈ fq p,In64 z:=by
 obtain⟨m1,m2,m3,m4,m5,m6,m7,m8⟩:=dV.1 hm;refine⟨iV.2 ⟨by simp[fq],fun i hi=>jR.2 (fun e=>?_)⟩,fun z hz=>?_⟩
 · have h:=m7 i hi;have e2:bj (fq p) i=(db p.cells i).2:=by
    unfold fq bj db;rw[ah,ah,List.getElem?_map,ap hi];rfl
   rw[e2];unfold fN at h;rw[e] at h;simpa using h
 · unfold fq at hz;rw[List.mem_map] at hz;obtain⟨x,hx,rfl⟩:=hz;exact hw.cells x hx
structure EgV where
 nIn:Nat
 nOut:Nat
 k:KpV
 cells:List Int
 tick:Int
 passed:Int
 replayed:Int
 put:Bool
 off:Bool
def gQ (E:EgV)(t:List Int × List Int × Nat × Int)(S:aX × Nat × Bool × Int):aX × EgV × Int :=
 if S.2.2.2≠0 then (S.1,{ E with nOut:=S.2.1 },S.2.2.2)
 else (S.1,{ E with nOut:=S.2.1,put:=E.put || S.2.2.1,tick:=E.tick+1,cells:=t.1,passed:=E.passed+1 },0)
def eOneB (m:Nat)(p:PV)(E:EgV)(D:aX)(t:List Int × List Int × Nat × Int):aX × EgV × Int :=
 if t.2.2.2≠0 then (D,E,t.2.2.2) else gQ E t (ff D (11+m) m 4 E.nOut p.outs E.tick t.2.1)
def iJ (m:Nat)(p:PV)(E:EgV)(r:aX × List Int × Int):aX × EgV × Int :=
 if r.2.2≠0 then (r.1,E,r.2.2) else eOneB m p E r.1 (eQ p E.cells r.2.1)
def bL (m:Nat)(p:PV)(D:aX)(E:EgV):aX × EgV × Int:=iJ m p E (dm D 11 m 3 E.nIn p.ins E.tick)
def lL (E:EgV)(F:aX × Int):aX × EgV × Int:=(F.1,{ E with put:=decide (F.2≠0) },F.2)
def cU (D:aX)(E:EgV):aX × EgV × Int:=if E.put=false then (D,E,0) else lL E (bH D)
def iW (E:EgV)(K:aX × KpV × Int):aX × EgV × Int :=
 if K.2.2≠0 then (K.1,{ E with k:=K.2.1 },K.2.2) else (K.1,{ E with k:=K.2.1,passed:=0 },0)
def iX (p:PV)(hash:Int)(E:EgV)(F:aX × Int):aX × EgV × Int :=
 if F.2≠0 then (F.1,E,F.2) else iW { E with put:=false } (eM F.1 1 5 6 5 p hash E.k E.tick E.cells)
def dr (p:PV)(hash:Int)(D:aX)(E:EgV):aX × EgV × Int:=iX p hash E (bH D)
def eD (m:Nat)(p:PV):Nat->aX->EgV->aX × EgV × Int
 | 0,D,E=>(D,E,0)
 | n+1,D,E=>if (bL m p D E).2.2≠0 then bL m p D E else eD m p n (bL m p D E).1 { (bL m p D E).2.1 with replayed:=(bL m p D E).2.1.replayed+1 }
def iK (p:PV)(hash pace:Int)(F:aX × EgV × Int):aX × EgV × Int :=
 if F.2.2≠0 then F else if pace<=F.2.1.passed then dr p hash F.1 F.2.1 else (F.1,F.2.1,0)
def jo (p:PV)(hash pace:Int)(R:aX × EgV × Int):aX × EgV × Int :=
 if R.2.2≠0 then R else iK p hash pace (cU R.1 R.2.1)
def eh (m:Nat)(p:PV)(hash pace:Int)(D:aX)(E:EgV):aX × EgV × Int :=
 jo p hash pace (eD m p ((E.nIn:Int) - E.tick).toNat D E)
def runT (p:PV)(hash pace:Int)(R:aX × EgV × Int):aX × EgV × Int :=
 if pace<=R.2.1.passed then dr p hash R.1 R.2.1 else (R.1,R.2.1,0)
def runK (m:Nat)(p:PV)(hash pace most:Int):Nat->Nat->aX->EgV->aX × EgV × Nat × Int
 | 0,n,D,E=>(D,E,n,0)
 | f+1,n,D,E=>
   if most<=(n:Int) then (D,E,n,0)
   else if (bL m p D E).2.2≠0 then ((bL m p D E).1,(bL m p D E).2.1,n,(bL m p D E).2.2)
   else if (runT p hash pace (bL m p D E)).2.2≠0 then ((runT p hash pace (bL m p D E)).1,(runT p hash pace (bL m p D E)).2.1,n+1,(runT p hash pace (bL m p D E)).2.2)
   else runK m p hash pace most f (n+1) (runT p hash pace (bL m p D E)).1 (runT p hash pace (bL m p D E)).2.1
def fy (E:EgV)(z:Int):EgV:={ E with off:=E.off || decide (z=50) }
def runB (n:Nat)(z:Int)(F:aX × EgV × Int):aX × EgV × Int × Int :=
 (F.1,fy F.2.1 (if z=0 then F.2.2 else z),(n:Int),if z=0 then F.2.2 else z)
def runA (R:aX × EgV × Nat × Int):aX × EgV × Int × Int:=runB R.2.2.1 R.2.2.2 (cU R.1 R.2.1)
def runE (m:Nat)(p:PV)(hash pace most:Int)(D:aX)(E:EgV):aX × EgV × Int × Int :=
 if E.off=true then (D,E,0,50) else if most<0 then (D,E,0,2) else runA (runK m p hash pace most ((E.nIn:Int) - E.tick).toNat 0 D E)
def subB (E:EgV)(A:aX × Nat × Int × Int):aX × EgV × Int × Int:=(A.1,fy { E with nIn:=A.2.1 } A.2.2.2,A.2.2.1,A.2.2.2)
def subE (m:Nat)(p:PV)(D:aX)(E:EgV)(l:List Int):aX × EgV × Int × Int :=
 if E.off=true then (D,E,0,50) else subB E (dY D 11 m 3 E.nIn p.ins l)
def saveB (S:aX × EgV × Int):aX × EgV × Int:=(S.1,fy S.2.1 S.2.2,S.2.2)
def fg (p:PV)(hash:Int)(D:aX)(E:EgV):aX × EgV × Int :=
 if E.off=true then (D,E,50) else saveB (dr p hash D E)
def jp (hash:Int)(T:Int × List UInt8 × Int):Int:=if T.2.2=53 then 54 else if T.2.2≠0 then T.2.2 else if T.1≠hash then 42 else 0
def noEg:EgV:=⟨0,0,hJ,[],0,0,0,false,false⟩
def eR (p:PV)(nIn nOut:Nat)(K:KpV):EgV:=⟨nIn,nOut,K,if K.has then K.last.cells else fq p,if K.has then K.last.tick else 0,0,0,false,false⟩
def ic (E:EgV):Prop:=(E.nIn:Int)<E.tick\/(E.nOut:Int)<E.tick\/E.nIn<E.nOut
instance (E:EgV):Decidable (ic E):=by unfold ic;infer_instance
def openK (m:Nat)(p:PV)(hash pace:Int)(nIn nOut:Nat)(K:aX × KpV × Int):aX × EgV × Int :=
 if K.2.2≠0 then (K.1,noEg,K.2.2)
 else if ic (eR p nIn nOut K.2.1) then (K.1,noEg,53)
 else if (eh m p hash pace K.1 (eR p nIn nOut K.2.1)).2.2≠0 then ((eh m p hash pace K.1 (eR p nIn nOut K.2.1)).1,noEg,(eh m p hash pace K.1 (eR p nIn nOut K.2.1)).2.2)
 else eh m p hash pace K.1 (eR p nIn nOut K.2.1)
def openS (m:Nat)(p:PV)(hash pace:Int)(nIn:Nat)(S:aX × Nat × Int):aX × EgV × Int :=
 if S.2.2≠0 then (S.1,noEg,S.2.2) else openK m p hash pace nIn S.2.1 (ec S.1 1 5 6 5 p hash)
def openF (m:Nat)(p:PV)(hash pace:Int)(F:aX × Nat × Int):aX × EgV × Int :=
 if F.2.2≠0 then (F.1,noEg,F.2.2) else openS m p hash pace F.2.1 (bS F.1 (11+m) m 4 p.outs)
def openO (m:Nat)(p:PV)(hash pace:Int)(D:aX)(z:Int):aX × EgV × Int :=
 if z≠0 then (D,noEg,z) else openF m p hash pace (bS D 11 m 3 p.ins)
def fh (m:Nat)(p:PV)(hash pace:Int)(D:aX):aX × EgV × Int :=
 openO m p hash pace (bN D 0 1 0).1 (jp hash (cP D 0 1 0 1))
def ee (now:List UInt8)(f a:Nat):Nat->List Int
 | 0=>[]
 | k+1=>if ch now ((f+(a+k):Nat):Int)=bw then ee now f a k else ee now f a k ++ [((a+k:Nat):Int)]
def wipeW (l:List Int)(W:aX × Int):aX × Int:=if W.2≠0 then W else if l=[] then (W.1,0) else bH W.1
def cQ (D:aX)(f m a k:Nat):aX × Int :=
 if D.off=true/\0<k then (D,50) else wipeW (ee D.now f a k) (dL (rdK D k) f m (ee D.now f a k))
def formD (P:aX × Int):aX × Int:=if P.2≠0 then P else bH P.1
def formC (M:Nat)(hash:Int)(W:aX × Int):aX × Int:=if W.2≠0 then W else formD (cI W.1 0 M 0 1 hash [])
def formB (M:Nat)(hash:Int)(W:aX × Int):aX × Int:=if W.2≠0 then W else formC M hash (cQ W.1 0 M 1 (M - 1))
def iq (M:Nat)(hash:Int)(D:aX):aX × Int:=formB M hash (cQ D 0 M 0 1)
theorem kj (x:Int):IntKind.i64.wrap x=wrap64 x:=by rw[IntKind.wrap_i64];unfold wrap64;omega
theorem arneg_any (a:Int)(w:World):Ca 306 #[I a] w fun e w'=>e=.returned (I (wrap64 (-a)))/\w=w':=by
 have hw:=kj (-a);go_enter Tryz.func306,Tryz.ntmps306;go_wp2;go_ret;exact⟨rfl,rfl⟩
theorem aradd_any (a b:Int)(w:World):Ca 308 #[I a,I b] w fun e w'=>e=.returned (I (wrap64 (a+b)))/\w=w':=by
 have hw:=kj (a+b);go_enter Tryz.func308,Tryz.ntmps308;go_wp2;go_ret;exact⟨rfl,rfl⟩
theorem arsub_any (a b:Int)(w:World):Ca 309 #[I a,I b] w fun e w'=>e=.returned (I (wrap64 (a - b)))/\w=w':=by
 have hw:=kj (a - b);go_enter Tryz.func309,Tryz.ntmps309;go_wp2;go_ret;exact⟨rfl,rfl⟩
theorem armul_any (a b:Int)(w:World):Ca 310 #[I a,I b] w fun e w'=>e=.returned (I (wrap64 (a * b)))/\w=w':=by
 have hw:=kj (a * b);go_enter Tryz.func310,Tryz.ntmps310;go_wp2;go_ret;exact⟨rfl,rfl⟩
theorem pP (b:Bool)(w:World):Ca 307 #[.bool b] w fun e w'=>e=.returned (I (eI b))/\w=w':=by
 cases b <;>
 (go_enter Tryz.func307,Tryz.ntmps307
  go_wp2;go_ret;exact⟨rfl,rfl⟩)
theorem ardiv_any (a b:Int)(w:World)(ha:In64 a):Ca 311 #[I a,I b] w fun e w'=>e=.returned (I (divK a b))/\w=w':=by
 have hin:In64 (divK a b):=divK_in ha
 by_cases h0:b=0
 · subst h0;rw[show divK a 0=0 from by unfold divK;rw[if_pos rfl]];clear hin;go_enter Tryz.func311,Tryz.ntmps311;go_wp2;go_ret;exact⟨rfl,rfl⟩
 · by_cases h1:b=-1
   · subst h1;rw[show divK a (-1)=wrap64 (-a) from by unfold divK;rw[if_neg aS,if_pos rfl]];have hw:=kj (-a);clear hin;go_enter Tryz.func311,Tryz.ntmps311;go_wp2;go_ret;exact⟨rfl,rfl⟩
   · have hd:divK a b=a.tdiv b:=by unfold divK;rw[if_neg h0,if_neg h1]
     rw[hd] at hin ⊢;have hw:=IntWalk.i64_in _ hin;have b0:(b == 0)=false:=by rw[af];exact h0
     have b1:(b == -1)=false:=by rw[af];exact h1
     clear hin hd;go_enter Tryz.func311,Tryz.ntmps311;go_wp2;go_ret;exact⟨rfl,rfl⟩
theorem armod_any (a b:Int)(w:World)(ha:In64 a):Ca 312 #[I a,I b] w fun e w'=>e=.returned (I (modK a b))/\w=w':=by
 have hd:=fun w=>ardiv_any a b w ha
 have h1:=kj (divK a b * b);have h2:=kj (a - wrap64 (divK a b * b));unfold modK;generalize wrap64 (a - wrap64 (divK a b * b))=R at *;generalize wrap64 (divK a b * b)=x2 at *;generalize divK a b=x1 at *;clear ha;go_enter Tryz.func312,Tryz.ntmps312;go_wp2_with (first | (go_at_call 311;go_call (hd _) as e w1 ⟨rfl,rfl⟩) | fail);go_ret;exact⟨rfl,rfl⟩
theorem arone_any (op a:Int)(w:World)(ho:op=5\/op=6):Ca 287 #[I op,I a] w fun e w'=>e=.returned (.tuple #[I (oneK op a),.bool true])/\w=w':=by
 have hn:=arneg_any;have hf:=pP;rcases ho with rfl | rfl
 · rw[show oneK 5 a=wrap64 (-a) from rfl];go_enter Tryz.func287,Tryz.ntmps287;go_wp2_with (first | (go_at_call 306;go_call (hn _ _) as e w1 ⟨rfl,rfl⟩) | fail);go_ret2;exact⟨rfl,rfl⟩
 · rw[show oneK 6 a=eI (a == 0) from rfl];go_enter Tryz.func287,Tryz.ntmps287;go_wp2_with (first | (go_at_call 307;go_call (hf _ _) as e w1 ⟨rfl,rfl⟩) | fail);go_ret2;exact⟨rfl,rfl⟩
def cmpB (op a b:Int):Bool:=if op=12 then a == b else if op=13 then a != b else if op=14 then decide (a<b) else if op=15 then decide (a<=b) else if op=16 then decide (b<a) else decide (b<=a)
def logB (op:Int)(a b:Bool):Bool:=if op=18 then a && b else if op=19 then a || b else a != b
theorem arcmp_any (op a b:Int)(w:World)(ho:12<=op/\op<=17):Ca 313 #[I op,I a,I b] w fun e w'=>e=.returned (.bool (cmpB op a b))/\w=w':=by
 rcases (show op=12\/op=13\/op=14\/op=15\/op=16\/op=17 by omega) with rfl | rfl | rfl | rfl | rfl | rfl
 all_goals
  go_enter Tryz.func313,Tryz.ntmps313;go_wp2;go_ret;exact⟨by first | rfl | (unfold cmpB;simp),rfl⟩
theorem arlog_any (op:Int)(a b:Bool)(w:World)(ho:18<=op/\op<=20):Ca 314 #[I op,.bool a,.bool b] w fun e w'=>e=.returned (.bool (logB op a b))/\w=w':=by
 rcases (show op=18\/op=19\/op=20 by omega) with rfl | rfl | rfl
 all_goals
  cases a <;> cases b <;>
  (go_enter Tryz.func314,Tryz.ntmps314
   go_wp2;go_ret;exact⟨by first | rfl | (unfold logB;simp),rfl⟩)
theorem ardo_any (op a b:Int)(w:World)(ho:7<=op/\op<=20)(ha:In64 a):Ca 288 #[I op,I a,I b] w fun e w'=>e=.returned (.tuple #[I (doK op a b),.bool true])/\w=w':=by
 have c7:=aradd_any a b;have c8:=arsub_any a b;have c9:=armul_any a b;have c10:=fun w=>ardiv_any a b w ha
 have c11:=fun w=>armod_any a b w ha
 have hf:=pP;have hc:=fun (o:Int) (h:12<=o/\o<=17) w=>arcmp_any o a b w h
 have hl:=fun (o:Int) (h:18<=o/\o<=20) w=>arlog_any o (a != 0) (b != 0) w h
 rcases (show op=7\/op=8\/op=9\/op=10\/op=11\/op=12\/op=13\/op=14\/op=15\/op=16\/op=17\/op=18\/op=19\/op=20 by omega) with rfl | rfl | rfl | rfl | rfl | rfl | rfl | rfl | rfl | rfl | rfl | rfl | rfl | rfl
 · rw[show doK 7 a b=wrap64 (a+b) from rfl];go_enter Tryz.func288,Tryz.ntmps288;go_wp2_with (first | (go_at_call 308;go_call (c7 _) as e w1 ⟨rfl,rfl⟩) | fail);go_ret2;exact⟨rfl,rfl⟩
 · rw[show doK 8 a b=wrap64 (a - b) from rfl];go_enter Tryz.func288,Tryz.ntmps288;go_wp2_with (first | (go_at_call 309;go_call (c8 _) as e w1 ⟨rfl,rfl⟩) | fail);go_ret2;exact⟨rfl,rfl⟩
 · rw[show doK 9 a b=wrap64 (a * b) from rfl];go_enter Tryz.func288,Tryz.ntmps288;go_wp2_with (first | (go_at_call 310;go_call (c9 _) as e w1 ⟨rfl,rfl⟩) | fail);go_ret2;exact⟨rfl,rfl⟩
 · rw[show doK 10 a b=divK a b from rfl];go_enter Tryz.func288,Tryz.ntmps288;go_wp2_with (first | (go_at_call 311;go_call (c10 _) as e w1 ⟨rfl,rfl⟩) | fail);go_ret2;exact⟨rfl,rfl⟩
 · rw[show doK 11 a b=modK a b from rfl];go_enter Tryz.func288,Tryz.ntmps288;go_wp2_with (first | (go_at_call 312;go_call (c11 _) as e w1 ⟨rfl,rfl⟩) | fail);go_ret2;exact⟨rfl,rfl⟩
 · have hc1:=hc 12 aS;rw[show doK 12 a b=eI (cmpB 12 a b) from rfl];clear c7 c8 c9 c10 c11 hc hl;generalize cmpB _ a b=B at *;go_enter Tryz.func288,Tryz.ntmps288;go_wp2_with (first | (go_at_call 313;go_call (hc1 _) as e w1 ⟨rfl,rfl⟩) | (go_at_call 307;go_call (hf _ _) as e w2 ⟨rfl,rfl⟩) | fail);go_ret2;exact⟨rfl,rfl⟩
 · have hc1:=hc 13 aS;rw[show doK 13 a b=eI (cmpB 13 a b) from rfl];clear c7 c8 c9 c10 c11 hc hl;generalize cmpB _ a b=B at *;go_enter Tryz.func288,Tryz.ntmps288;go_wp2_with (first | (go_at_call 313;go_call (hc1 _) as e w1 ⟨rfl,rfl⟩) | (go_at_call 307;go_call (hf _ _) as e w2 ⟨rfl,rfl⟩) | fail);go_ret2;exact⟨rfl,rfl⟩
 · have hc1:=hc 14 aS;rw[show doK 14 a b=eI (cmpB 14 a b) from rfl];clear c7 c8 c9 c10 c11 hc hl;generalize cmpB _ a b=B at *;go_enter Tryz.func288,Tryz.ntmps288;go_wp2_with (first | (go_at_call 313;go_call (hc1 _) as e w1 ⟨rfl,rfl⟩) | (go_at_call 307;go_call (hf _ _) as e w2 ⟨rfl,rfl⟩) | fail);go_ret2;exact⟨rfl,rfl⟩
 · have hc1:=hc 15 aS;rw[show doK 15 a b=eI (cmpB 15 a b) from rfl];clear c7 c8 c9 c10 c11 hc hl;generalize cmpB _ a b=B at *;go_enter Tryz.func288,Tryz.ntmps288;go_wp2_with (first | (go_at_call 313;go_call (hc1 _) as e w1 ⟨rfl,rfl⟩) | (go_at_call 307;go_call (hf _ _) as e w2 ⟨rfl,rfl⟩) | fail);go_ret2;exact⟨rfl,rfl⟩
 · have hc1:=hc 16 aS;rw[show doK 16 a b=eI (cmpB 16 a b) from rfl];clear c7 c8 c9 c10 c11 hc hl;generalize cmpB _ a b=B at *;go_enter Tryz.func288,Tryz.ntmps288;go_wp2_with (first | (go_at_call 313;go_call (hc1 _) as e w1 ⟨rfl,rfl⟩) | (go_at_call 307;go_call (hf _ _) as e w2 ⟨rfl,rfl⟩) | fail);go_ret2;exact⟨rfl,rfl⟩
 · have hc1:=hc 17 aS;rw[show doK 17 a b=eI (cmpB 17 a b) from rfl];clear c7 c8 c9 c10 c11 hc hl;generalize cmpB _ a b=B at *;go_enter Tryz.func288,Tryz.ntmps288;go_wp2_with (first | (go_at_call 313;go_call (hc1 _) as e w1 ⟨rfl,rfl⟩) | (go_at_call 307;go_call (hf _ _) as e w2 ⟨rfl,rfl⟩) | fail);go_ret2;exact⟨rfl,rfl⟩
 · have hl1:=hl 18 aS;rw[show doK 18 a b=eI (logB 18 (a != 0) (b != 0)) from rfl];clear c7 c8 c9 c10 c11 hc hl;generalize logB _ (a != 0) (b != 0)=B at *;go_enter Tryz.func288,Tryz.ntmps288;go_wp2_with (first | (go_at_call 314;go_call (hl1 _) as e w1 ⟨rfl,rfl⟩) | (go_at_call 307;go_call (hf _ _) as e w2 ⟨rfl,rfl⟩) | fail);go_ret2;exact⟨rfl,rfl⟩
 · have hl1:=hl 19 aS;rw[show doK 19 a b=eI (logB 19 (a != 0) (b != 0)) from rfl];clear c7 c8 c9 c10 c11 hc hl;generalize logB _ (a != 0) (b != 0)=B at *;go_enter Tryz.func288,Tryz.ntmps288;go_wp2_with (first | (go_at_call 314;go_call (hl1 _) as e w1 ⟨rfl,rfl⟩) | (go_at_call 307;go_call (hf _ _) as e w2 ⟨rfl,rfl⟩) | fail);go_ret2;exact⟨rfl,rfl⟩
 · have hl1:=hl 20 aS;rw[show doK 20 a b=eI (logB 20 (a != 0) (b != 0)) from rfl];clear c7 c8 c9 c10 c11 hc hl;generalize logB _ (a != 0) (b != 0)=B at *;go_enter Tryz.func288,Tryz.ntmps288;go_wp2_with (first | (go_at_call 314;go_call (hl1 _) as e w1 ⟨rfl,rfl⟩) | (go_at_call 307;go_call (hf _ _) as e w2 ⟨rfl,rfl⟩) | fail);go_ret2;exact⟨rfl,rfl⟩
def bo (b:Bool):Value:=.bool b
def lkC (x:PA)(p:PV)(K:Option Addr)(nk ck:Nat)(O:Option Addr)(no co:Nat)(past:Int)(bad:Bool):List Value :=
 [.slice x.A1 x.n1 x.c1,.slice x.A2 x.n2 x.c2,I p.regs,.slice x.A3 x.n3 x.c3,.slice x.A4 x.n4 x.c4,.slice K nk ck,.slice O no co,I past,.bool bad]
def LkAt (w:World)(base g:Nat)(x:PA)(p:PV)(s:LkV):Prop :=
 ∃ K nk ck O no co,Blk w g 231 (lkC x p K nk ck O no co s.past s.bad)/\base<=g/\Ow iv w base 3 K nk ck s.kinds/\Ow bo w base 4 O no co s.outs
theorem ir {α:Type}{enc:α->Value}{w:World}{g:Nat}{A:Option Addr}{l:List α}(h:Ow enc w base t A n c l)(hg:A.map (·.block)=some g):∃ cs,Blk w g t cs:=by
 rcases h.2.2 with ⟨hv,_⟩ | ⟨g',cap,cur,hv,_,hh,_⟩
 · injection hv with hv;subst hv;cases hg
 · injection hv with hv;subst hv;simp only[Option.map_some,Option.some.injEq] at hg;subst hg;exact⟨cur.toList,by unfold Blk;rw[hh]⟩
section
variable {w w':World} {base g:Nat} {x:PA} {p:PV} {s:LkV}
def lkMut:List TypeId:=[231,3,4]
def Stay (w w':World):Prop:=∀ g t cs,t ∉ lkMut->Blk w g t cs->Blk w' g t cs
theorem Stay.refl (w:World):Stay w w:=fun _ _ _ _ h=>h
theorem Stay.trans {w1 w2 w3:World}(h:Stay w1 w2)(k:Stay w2 w3):Stay w1 w3:=fun g t cs ht hb=>k g t cs ht (h g t cs ht hb)
theorem Stay.set {g:Nat}{cs:List Value}(hb:Blk w g t cs)(ht:t ∈ lkMut)(i:Nat)(u:Value):Stay w (w.setCell ⟨g,i,none⟩ u):=fun g' t' cs' ht' hb'=>hb'.far (p:=⟨g,i,none⟩) (fun e=>hb'.ne_ hb (fun e'=>ht' (by rw[e'];exact ht)) e) _
theorem Stay.of_below (hb:Below w.heap.size w w'):Stay w w':=fun g t cs _ h=>h.below hb h.lt
def ei (w:World)(base g:Nat)(x:PA)(p:PV)(s':LkV)(v:Option Int)(e:Ending)(w':World):Prop :=
 e=.returned (match v with | none=>.tuple #[] | some n=>.int .i64 n)/\LkAt w' base g x p s'/\Below base w w'/\Stay w w'
theorem ie (h:LkAt w base g x p s)(b:Bool):Ca 274 #[.pointer (some ⟨g,0,none⟩),.bool b] w (ei w base g x p (cJ s b) none):=by
 obtain⟨K,nk,ck,O,no,co,hb,hg,hk,ho⟩:=h;have c8:=hb.c8;have f8:=hb.frozen 8;have hl:=hb.lt;have HB:=aT hb;have HK:=aT hk;have HO:=aT ho;clear hb hk ho
 cases hs:s.bad with
 | true=>
   rw[hs] at c8;go_enter Tryz.func274,Tryz.ntmps274;go_wp2;go_end0;refine⟨rfl,⟨K,nk,ck,O,no,co,?_,hg,HK.out.setFar HB.out aU 8 _,HO.out.setFar HB.out aU 8 _⟩,(Below.refl _ _).setCell hg _,Stay.set HB.out aU _ _⟩;have:=HB.out.set_ 8 (.bool true);simpa [lkC,cJ,hs] using this
 | false=>
   rw[hs] at c8;go_enter Tryz.func274,Tryz.ntmps274;go_wp2;go_end0;refine⟨rfl,⟨K,nk,ck,O,no,co,?_,hg,HK.out.setFar HB.out aU 8 _,HO.out.setFar HB.out aU 8 _⟩,(Below.refl _ _).setCell hg _,Stay.set HB.out aU _ _⟩;have:=HB.out.set_ 8 (.bool (!b));simpa [lkC,cJ,hs] using this
theorem jq (h:LkAt w base g x p s)(n:Int):Ca 275 #[.pointer (some ⟨g,0,none⟩),I n] w (ei w base g x p (cW s n).1 (some (cW s n).2)):=by
 obtain⟨K,nk,ck,O,no,co,hb,hg,hk,ho⟩:=h;have c5:=hb.c5;have c8:=hb.c8;have f8:=hb.frozen 8;have hl:=hb.lt;have hkl:=hk.1;have HB:=aT hb;have HK:=aT hk;have HO:=aT ho;have HKL:=aT hkl;have hbad:∀ W,W=w.setCell ⟨g,8,none⟩ (.bool true)->ei w base g x p { s with bad:=true } (some 0) (.returned (I 0)) W:=fun W e=>by
  subst e;refine⟨rfl,⟨K,nk,ck,O,no,co,?_,hg,HK.out.setFar HB.out aU 8 _,HO.out.setFar HB.out aU 8 _⟩,(Below.refl _ _).setCell hg _,Stay.set HB.out aU _ _⟩;have:=HB.out.set_ 8 (.bool true);simpa [lkC] using this
 have HBAD:=aT hbad;unfold cW;rw[hkl];clear hb hk ho hbad hkl
 by_cases h1:n<0
 · rw[if_pos (.inl h1)];go_enter Tryz.func275,Tryz.ntmps275;go_wp2;go_ret;exact HBAD.out _ rfl
 by_cases h2:(nk:Int)<=n
 · rw[if_pos (.inr (.inl h2))];go_enter Tryz.func275,Tryz.ntmps275;go_wp2;go_ret;exact HBAD.out _ rfl
 obtain⟨m,rfl⟩:∃ m:Nat,n=m:=⟨n.toNat,aS⟩;have hm:m<nk:=aS;obtain⟨b1,o1,hK,hb1,hc⟩:=HK.out.rd.2.at_ hm;have hml:m<s.kinds.length:=by rw[HKL.out];exact hm
 rw[ik s.kinds m hml] at hc;have hka:kAt s.kinds (m:Int)=s.kinds[m]:=by
  unfold kAt;rw[if_neg aS,ax,ah,ap hml];rfl
 rw[hka];generalize s.kinds[m]=kk at *;have hcc:w.cell? ⟨b1,o1+m,none⟩=some (I kk):=hc;clear hc hka hml;have SK:=aT hK
 by_cases h3:kk=0
 · subst h3;rw[if_pos (.inr (.inr rfl))];subst hK;go_enter Tryz.func275,Tryz.ntmps275;go_wp2;go_ret;exact HBAD.out _ rfl
 · have hne:(kk == 0)=false:=by rw[af];exact h3
   rw[if_neg aS];clear h3;subst hK;go_enter Tryz.func275,Tryz.ntmps275;go_wp2;go_ret;exact⟨rfl,⟨_,nk,ck,O,no,co,HB.out,hg,HK.out,HO.out⟩,Below.refl _ _,Stay.refl _⟩
theorem jr (h:LkAt w base g x p s)(n kind:Int):Ca 273 #[.pointer (some ⟨g,0,none⟩),I n,I kind] w (ei w base g x p (fp s n kind) none):=by
 obtain⟨K,nk,ck,O,no,co,hb,hg,hk,ho⟩:=h;have c5:=hb.c5;have c8:=hb.c8;have f8:=hb.frozen 8;have hl:=hb.lt;have hkl:=hk.1;have HB:=aT hb;have HK:=aT hk;have HO:=aT ho;have HKL:=aT hkl;have hbad:∀ W,W=w.setCell ⟨g,8,none⟩ (.bool true)->ei w base g x p { s with bad:=true } none (.returned (.tuple #[])) W:=fun W e=>by
  subst e;refine⟨rfl,⟨K,nk,ck,O,no,co,?_,hg,HK.out.setFar HB.out aU 8 _,HO.out.setFar HB.out aU 8 _⟩,(Below.refl _ _).setCell hg _,Stay.set HB.out aU _ _⟩;have:=HB.out.set_ 8 (.bool true);simpa [lkC] using this
 have HBAD:=aT hbad;unfold fp;rw[hkl];clear hb hk ho hbad hkl
 by_cases h1:n<0
 · rw[if_pos (.inl h1)];go_enter Tryz.func273,Tryz.ntmps273;go_wp2;go_end0;exact HBAD.out _ rfl
 by_cases h2:(nk:Int)<=n
 · rw[if_pos (.inr (.inl h2))];go_enter Tryz.func273,Tryz.ntmps273;go_wp2;go_end0;exact HBAD.out _ rfl
 obtain⟨m,rfl⟩:∃ m:Nat,n=m:=⟨n.toNat,aS⟩;have hm:m<nk:=aS;obtain⟨gk,hK,hgk,hgl⟩:=HK.out.addr aS;obtain⟨b1,o1,hK1,hb1,hc⟩:=HK.out.rd.2.at_ hm;rw[hK] at hK1;injection hK1 with hK1;injection hK1 with q1 q2 _;subst q1 q2;have hml:m<s.kinds.length:=by rw[HKL.out];exact hm
 rw[ik s.kinds m hml,aD] at hc;have hka:kAt s.kinds (m:Int)=s.kinds[m]:=by
  unfold kAt;rw[if_neg aS,ax,ah,ap hml];rfl
 rw[hka];generalize s.kinds[m]=kk at *;have hcc:w.cell? ⟨gk,m,none⟩=some (I kk):=hc;have fm:=(show Ow iv w base 3 (some ⟨gk,0,none⟩) nk ck s.kinds from hK ▸ HK.out).free m;have hne9:gk≠g:=fun e=>by
  subst e;obtain⟨cs,hbk⟩:=ir (g:=gk) HK.out (by rw[hK];rfl);exact hbk.ne_ HB.out aU rfl
 clear hc hka hml
 by_cases h3:kk=0
 · subst h3;rw[if_neg aS];subst hK;go_enter Tryz.func273,Tryz.ntmps273;go_wp2;go_end0;obtain⟨cs,hbk⟩:=ir (g:=gk) HK.out rfl;exact⟨rfl,⟨_,nk,ck,O,no,co,HB.out.far (p:=⟨gk,m,none⟩) (fun e=>hne9 e.symm) _,hg,HK.out.set m kind _ rfl,HO.out.setFar hbk aU m _⟩,(Below.refl _ _).setCell hgk _,Stay.set hbk aU _ _⟩
 · have hne:(kk != 0)=true:=by rw[ag];exact h3
   rw[if_pos (.inr (.inr h3))];clear h3;subst hK;go_enter Tryz.func273,Tryz.ntmps273;go_wp2;go_end0;exact HBAD.out _ rfl
theorem lkone_any (h:LkAt w base g x p s)(L:Option Addr)(nl cl:Nat)(l:List Int)(hL:RI w L nl l)(n:Int):Ca 277 #[.pointer (some ⟨g,0,none⟩),.slice L nl cl,I n] w (ei w base g x p (oneV s l n).1 (some (oneV s l n).2)):=by
 have hLK:=h;obtain⟨K,nk,ck,O,no,co,hb,hg,hk,ho⟩:=h;have c8:=hb.c8;have f8:=hb.frozen 8;have hl:=hb.lt;have hll:=hL.1;have HB:=aT hb;have HK:=aT hk;have HO:=aT ho;have HLK:=aT hLK;have hbad:∀ W,W=w.setCell ⟨g,8,none⟩ (.bool true)->ei w base g x p { s with bad:=true } (some 0) (.returned (I 0)) W:=fun W e=>by
  subst e;refine⟨rfl,⟨K,nk,ck,O,no,co,?_,hg,HK.out.setFar HB.out aU 8 _,HO.out.setFar HB.out aU 8 _⟩,(Below.refl _ _).setCell hg _,Stay.set HB.out aU _ _⟩;have:=HB.out.set_ 8 (.bool true);simpa [lkC] using this
 have HBAD:=aT hbad;unfold oneV;rw[hll];clear hb hk ho hbad hLK
 by_cases h1:n<0
 · rw[if_pos (.inl h1)];go_enter Tryz.func277,Tryz.ntmps277;go_wp2;go_ret;exact HBAD.out _ rfl
 by_cases h2:(nl:Int)<=n
 · rw[if_pos (.inr h2)];go_enter Tryz.func277,Tryz.ntmps277;go_wp2;go_ret;exact HBAD.out _ rfl
 rw[if_neg aS];obtain⟨m,rfl⟩:∃ m:Nat,n=m:=⟨n.toNat,aS⟩;obtain⟨b1,o1,hL1,hb1,hc⟩:=hL.at_ (k:=m) aS;have hka:kAt l (m:Int)=bj l m:=by
  unfold kAt bj;rw[if_neg aS,ax]
 rw[hka];subst hL1;go_enter Tryz.func277,Tryz.ntmps277;go_wp2;go_ret;exact⟨rfl,HLK.out,Below.refl _ _,Stay.refl _⟩
theorem pQ (h:LkAt w base g x p s)(hp:cC w x p)(n:Int):Ca 276 #[.pointer (some ⟨g,0,none⟩),I n] w (ei w base g x p (cellV p s n).1 (some (cellV p s n).2)):=by
 have hLK:=h;obtain⟨K,nk,ck,O,no,co,hb,hg,hk,ho⟩:=h;have c3:=hb.c3;have c8:=hb.c8;have f8:=hb.frozen 8;have hl:=hb.lt;have hll:=hp.r3.1;have HB:=aT hb;have HK:=aT hk;have HO:=aT ho;have HLK:=aT hLK;have HP:=aT hp;have hbad:∀ W,W=w.setCell ⟨g,8,none⟩ (.bool true)->ei w base g x p { s with bad:=true } (some 0) (.returned (I 0)) W:=fun W e=>by
  subst e;refine⟨rfl,⟨K,nk,ck,O,no,co,?_,hg,HK.out.setFar HB.out aU 8 _,HO.out.setFar HB.out aU 8 _⟩,(Below.refl _ _).setCell hg _,Stay.set HB.out aU _ _⟩;have:=HB.out.set_ 8 (.bool true);simpa [lkC] using this
 have HBAD:=aT hbad;unfold cellV;rw[hll];clear hb hk ho hbad hLK hp
 by_cases h1:n<0
 · rw[if_pos (.inl h1)];go_enter Tryz.func276,Tryz.ntmps276;go_wp2;go_ret;exact HBAD.out _ rfl
 by_cases h2:(x.n3:Int)<=n
 · rw[if_pos (.inr h2)];go_enter Tryz.func276,Tryz.ntmps276;go_wp2;go_ret;exact HBAD.out _ rfl
 rw[if_neg aS];obtain⟨m,rfl⟩:∃ m:Nat,n=m:=⟨n.toNat,aS⟩;obtain⟨b,o,y,hA,hbl,hx,hc⟩:=HP.out.r3.at_ iy aS (show m<x.n3 by omega);have h0:w.cell? ⟨b,o+m * 2,none⟩=some (I y.1):=hc 0 aS;rw[ax,jD hx];rw[hA] at c3;clear hc hx;go_enter Tryz.func276,Tryz.ntmps276;go_wp2;go_ret;exact⟨rfl,HLK.out,Below.refl _ _,Stay.refl _⟩
end
structure TA where
 Ar:Option Addr
 nr:Nat
 cr:Nat
 Ac:Option Addr
 nc:Nat
 cc:Nat
 An:Option Addr
 nn:Nat
 cn:Nat
 Ai:Option Addr
 ni:Nat
 ci:Nat
 Ao:Option Addr
 no:Nat
 co:Nat
def tickC (a:TA):List Value:=[.slice a.Ar a.nr a.cr,.slice a.Ac a.nc a.cc,.slice a.An a.nn a.cn,.slice a.Ai a.ni a.ci,.slice a.Ao a.no a.co]
structure dn (w0 w:World)(g:Nat)(a:TA)(cells ins:List Int)(s:VS):Prop where
 bel:Below w0.heap.size w0 w
 t:Blk w g 348 (tickC a)
 gl:w0.heap.size<=g
 r:Ow iv w w0.heap.size 3 a.Ar a.nr a.cr s.regs
 n:Ow iv w w0.heap.size 3 a.An a.nn a.cn s.next
 o:Ow iv w w0.heap.size 3 a.Ao a.no a.co s.out
 c:RI w0 a.Ac a.nc cells
 i:RI w0 a.Ai a.ni ins
 rn:∀ b,a.Ar.map (·.block)=some b->a.An.map (·.block)≠some b
 ro:∀ b,a.Ar.map (·.block)=some b->a.Ao.map (·.block)≠some b
 no_:∀ b,a.An.map (·.block)=some b->a.Ao.map (·.block)≠some b
theorem Ow.kp {α:Type}{enc:α->Value}{F:Nat->Prop}{w w':World}{b:Nat}{B:Option Addr}{l:List α}(h:Ow enc w b t B n c l)(k:Keep F w w')(hF:∀ g,B.map (·.block)=some g->¬ F g):Ow enc w' b t B n c l :=
 ⟨h.1,il h.2 k (fun g e=>hF g (by cases B with | none=>cases e | some a=>simpa [Value.ownBlock] using e))⟩
section
variable {w0 w w':World} {g:Nat} {a:TA} {cells ins:List Int} {s:VS}
theorem dn.below (h:dn w0 w g a cells ins s)(hb:Below w.heap.size w w'):dn w0 w' g a cells ins s :=
 ⟨h.bel.trans (hb.mono h.bel.size),h.t.below hb h.t.lt,h.gl,h.r.below hb aW,h.n.below hb aW,h.o.below hb aW,h.c,h.i,h.rn,h.ro,h.no_⟩
theorem dn.drew (h:dn w0 w g a cells ins s):dn w0 w.drew g a cells ins s:=h.below (Below.drew (Below.refl _ _))
theorem dn.setR (h:dn w0 w g a cells ins s)(hA:a.Ar=some ⟨gr,0,none⟩)(j:Nat)(v:Int)(u:Value)(hu:u=I v)(s':VS)(h1:s'.regs=putK s.regs (j:Nat) v)(h2:s'.next=s.next)(h3:s'.out=s.out):dn w0 (w.setCell ⟨gr,j,none⟩ u) g a cells ins s':=by
 subst hu;have hr:=h.r;rw[hA] at hr;obtain⟨cs,hb⟩:=ir (g:=gr) hr rfl;have k:Keep (·=gr) w (w.setCell ⟨gr,j,none⟩ (I v)):=Keep.one (dw _);have hg:=hr.lt gr rfl;refine⟨h.bel.trans (k.below (fun b e=>by rw[e];exact hg.1) h.bel.size),h.t.keep k (fun e=>h.t.ne_ hb aU e),h.gl,?_,by rw[h2];exact h.n.kp k (fun b e q=>h.rn gr (by rw[hA];rfl) (by rw[e,q])),by rw[h3];exact h.o.kp k (fun b e q=>h.ro gr (by rw[hA];rfl) (by rw[e,q])),h.c,h.i,h.rn,h.ro,h.no_⟩;rw[hA,h1];have:=hr.set j v (I v) rfl;simpa [putK] using this
theorem dn.setN (h:dn w0 w g a cells ins s){gn:Nat}(hA:a.An=some ⟨gn,0,none⟩)(j:Nat)(v:Int)(u:Value)(hu:u=I v)(s':VS)(h1:s'.next=putK s.next (j:Nat) v)(h2:s'.regs=s.regs)(h3:s'.out=s.out):dn w0 (w.setCell ⟨gn,j,none⟩ u) g a cells ins s':=by
 subst hu;have hr:=h.n;rw[hA] at hr;obtain⟨cs,hb⟩:=ir (g:=gn) hr rfl;have k:Keep (·=gn) w (w.setCell ⟨gn,j,none⟩ (I v)):=Keep.one (dw _);have hg:=hr.lt gn rfl;refine⟨h.bel.trans (k.below (fun b e=>by rw[e];exact hg.1) h.bel.size),h.t.keep k (fun e=>h.t.ne_ hb aU e),h.gl,by rw[h2];exact h.r.kp k (fun b e q=>h.rn gn (by rw[<- q];exact e) (by rw[hA];rfl)),?_,by rw[h3];exact h.o.kp k (fun b e q=>h.no_ gn (by rw[hA];rfl) (by rw[e,q])),h.c,h.i,h.rn,h.ro,h.no_⟩;rw[hA,h1];have:=hr.set j v (I v) rfl;simpa [putK] using this
theorem dn.setO (h:dn w0 w g a cells ins s){go:Nat}(hA:a.Ao=some ⟨go,0,none⟩)(j:Nat)(v:Int)(u:Value)(hu:u=I v)(s':VS)(h1:s'.out=putK s.out (j:Nat) v)(h2:s'.regs=s.regs)(h3:s'.next=s.next):dn w0 (w.setCell ⟨go,j,none⟩ u) g a cells ins s':=by
 subst hu;have hr:=h.o;rw[hA] at hr;obtain⟨cs,hb⟩:=ir (g:=go) hr rfl;have k:Keep (·=go) w (w.setCell ⟨go,j,none⟩ (I v)):=Keep.one (dw _);have hg:=hr.lt go rfl;refine⟨h.bel.trans (k.below (fun b e=>by rw[e];exact hg.1) h.bel.size),h.t.keep k (fun e=>h.t.ne_ hb aU e),h.gl,by rw[h2];exact h.r.kp k (fun b e q=>h.ro go (by rw[<- q];exact e) (by rw[hA];rfl)),by rw[h3];exact h.n.kp k (fun b e q=>h.no_ go (by rw[<- q];exact e) (by rw[hA];rfl)),?_,h.c,h.i,h.rn,h.ro,h.no_⟩;rw[hA,h1];have:=hr.set j v (I v) rfl;simpa [putK] using this
theorem om (h:Ow iv w base 3 (some ⟨gr,0,none⟩) n c l){j:Nat}(hj:j<n):w.cell? ⟨gr,j,none⟩=some (I (bj l j)):=by
 obtain⟨b,o,e,_,hc⟩:=h.rd.ri.at_ hj;injection e with e;injection e with e1 e2 _;subst e1 e2
 rwa [aD] at hc
end
