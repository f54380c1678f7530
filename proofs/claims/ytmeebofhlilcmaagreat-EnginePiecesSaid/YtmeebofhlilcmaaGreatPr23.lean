/- Parts. -/
import Derived.Test.YtmeebofhlilcmaaGreatPr18
import Derived.Test.YtmeebofhlilcmaaGreatPr22
set_option linter.unusedVariables false
set_option linter.unusedSimpArgs false
set_option maxRecDepth 100000
set_option maxHeartbeats 0
namespace Go.Proofs.YtmeebofhlilcmaaGreat
variable {p:PV} {cells ins l:List Int} {i:Nat} {r:Int}
open Go.RowKit
structure VS where
 regs:List Int
 next:List Int
 out:List Int
 steps:Nat
variable {s:VS}
def atK (l:List Int)(n:Int):Int:=ba l n.toNat
def putK (l:List Int)(n v:Int):List Int:=l.set n.toNat v
def iB (cells ins:List Int)(x:Ins)(r:List Int):Int :=
 if x.op=3 then atK r x.b
 else if x.op=5\/x.op=6 then oneK x.op (atK r x.b)
 else if x.op=27 then (if atK r x.b≠0 then atK r x.c else atK r x.k)
 else if x.op=21 then atK cells x.k
 else if x.op=28 then atK ins x.k
 else if 7<=x.op/\x.op<=20 then doK x.op (atK r x.b) (atK r x.c)
 else x.k
def fI (x:Ins)(r:List Int):Nat:=if (x.op=30/\atK r x.a=0)\/(x.op=31/\atK r x.a≠0) then x.k.toNat else 0
def dE (cells ins:List Int)(x:Ins)(s:VS):VS :=
 if x.op=29 then { s with out:=putK s.out x.k (atK s.regs x.a),steps:=s.steps+1 }
 else if x.op=32 then { s with next:=putK s.next x.k (atK s.regs x.a),steps:=s.steps+1 }
 else if x.op=30\/x.op=31 then { s with steps:=s.steps+1 }
 else { s with regs:=putK s.regs x.a (iB cells ins x s.regs),steps:=s.steps+1 }
def runV (p:PV)(cells ins:List Int):Nat->Nat->VS->VS
 | 0,_,s=>s
 | n+1,i,s=>if i<p.code.length then runV p cells ins n (i+1+fI (aX p.code i) s.regs) (dE cells ins (aX p.code i) s) else s
def goV (p:PV)(cells ins:List Int)(i:Nat)(s:VS):VS:=runV p cells ins p.code.length i s
theorem runV_more (p:PV)(cells ins:List Int):∀ (n m i:Nat) (s:VS),p.code.length<=n+i->p.code.length<=m+i->runV p cells ins n i s=runV p cells ins m i s:=by
 intro n
 induction n with
 | zero=>
   intro m i s h1 h2
   cases m with
   | zero=>rfl
   | succ m=>unfold runV;rw[if_neg aS]
 | succ n ih=>
   intro m i s h1 h2
   cases m with
   | zero=>unfold runV;rw[if_neg aS]
   | succ m=>
     unfold runV
     by_cases hi:i<p.code.length
     · rw[if_pos hi,if_pos hi];exact ih m _ _ aS aS
     · rw[if_neg hi,if_neg hi]
theorem goV_step (hi:i<p.code.length):goV p cells ins i s=goV p cells ins (i+1+fI (aX p.code i) s.regs) (dE cells ins (aX p.code i) s):=by
 unfold goV;rw[runV_more p cells ins p.code.length (p.code.length+1) i s aS aS]
 show (if i<p.code.length then _ else s)=_
 rw[if_pos hi]
theorem goV_end (hi:p.code.length<=i):goV p cells ins i s=s:=by
 unfold goV;rw[runV_more p cells ins p.code.length 0 i s aS aS]
 rfl
def gu (p:PV)(cells:List Int):Bool:=decide (cells.length=p.cells.length) && allK p.cells.length (fun i=>okAt (cJ p.cells i).1 (ba cells i))
def ea (p:PV)(cells:List Int):VS:=⟨List.replicate p.regs.toNat 0,cells,List.replicate p.outs.length 0,0⟩
def eO (p:PV)(cells ins:List Int):List Int × List Int × Nat × Int :=
 if (gu p cells && cx p.ins ins)=true then ((goV p cells ins 0 (ea p cells)).next,(goV p cells ins 0 (ea p cells)).out,(goV p cells ins 0 (ea p cells)).steps,0) else ([],[],0,41)
def es (p:PV):List Int:=p.cells.map (·.2)
def fV (l:List (List Int))(i:Nat):List Int:=l.getD i []
def dg (p:PV)(rows:List (List Int)):Nat->List Int
 | 0=>es p
 | t+1=>(eO p (dg p rows t) (fV rows t)).1
def dM (p:PV)(rows:List (List Int))(t:Nat):List Int:=(eO p (dg p rows t) (fV rows t)).2.1
def cM (p:PV)(rows:List (List Int))(n:Nat):List (List Int):=(List.range n).map (dM p rows)
theorem nQ (p:PV)(rows:List (List Int))(n:Nat):cM p rows n ++ [dM p rows n]=cM p rows (n+1):=by unfold cM;rw[List.range_succ,List.map_append];rfl
structure lq (p:PV)(i:Nat)(x:Ins):Prop where
 a0:0<=x.a
 a1:x.a<p.regs
 b:x.op=3\/(5<=x.op/\x.op<=20)\/x.op=27->0<=x.b/\x.b<p.regs
 c:(7<=x.op/\x.op<=20)\/x.op=27->0<=x.c/\x.c<p.regs
 k27:x.op=27->(0<=x.k/\x.k<p.regs)/\x.a≠x.b/\x.a≠x.c
 k21:x.op=21\/x.op=32->0<=x.k/\x.k<(p.cells.length:Int)
 k28:x.op=28->0<=x.k/\x.k<(p.ins.length:Int)
 k29:x.op=29->0<=x.k/\x.k<(p.outs.length:Int)
 k30:x.op=30\/x.op=31->0<=x.k/\x.k<=(p.code.length:Int) - 1 - (i:Int)
 ab:x.op=3\/(5<=x.op/\x.op<=20)\/x.op=27->x.a≠x.b
 ac:(7<=x.op/\x.op<=20)\/x.op=27->x.a≠x.c
 ak:x.op=27->x.a≠x.k
 op:x.op=1\/x.op=2\/x.op=3\/(5<=x.op/\x.op<=20)\/x.op=21\/x.op=27\/x.op=28\/x.op=29\/x.op=30\/x.op=31\/x.op=32
theorem iC (h:bG p i r≠0):0<=r/\r<p.regs/\dj p i r=bG p i r:=by
 unfold bG at h ⊢
 by_cases q:r<0\/p.regs<=r
 · rw[if_pos q] at h;exact absurd rfl h
 · rw[if_neg q];exact⟨aS,aS,rfl⟩
section
variable {p:PV} {i:Nat}
theorem nR (h:okR p i=true):dD p i (aX p.code i)=true/\(29<=(aX p.code i).op\/((aX p.code i).a<p.regs/\dj p i (aX p.code i).a=0/\(df p (bG p i) (aX p.code i)=1\/df p (bG p i) (aX p.code i)=2))):=by
 unfold okR at h;simp only[ax,Bool.or_eq_true,aq] at h;exact⟨h.1,h.2.1⟩
theorem jd (h:dG p=true):mayB p=true/\∀ i,i<p.code.length->okR p i=true:=by
 rw[verify_is] at h;unfold jQ at h;simp only[ax,List.all_eq_true,List.mem_range] at h;exact⟨h.1,fun i hi=>h.2.1 i hi⟩
theorem mn (op:Int)(h:5<=op/\op<=20):fG op=true:=am h
theorem fO {op:Int}(h:op<5\/20<op):fG op=false:=ah aS
theorem safe_of (h:dG p=true)(hi:i<p.code.length):lq p i (aX p.code i):=by
 obtain⟨hm,hok⟩:=jd h;obtain⟨m1,m2,m3,m4,m5,m6,m7,m8⟩:=dP.1 hm;have hio:=of_decide_eq_true (m8 i hi);obtain⟨o1,o2,o3,o4,o5,o6,o7⟩:=hio;obtain⟨t,g⟩:=nR (hok i hi);have hop:(aX p.code i).op=1\/(aX p.code i).op=2\/(aX p.code i).op=3\/(5<=(aX p.code i).op/\(aX p.code i).op<=20)\/(aX p.code i).op=21\/(aX p.code i).op=27\/(aX p.code i).op=28\/(aX p.code i).op=29\/(aX p.code i).op=30\/(aX p.code i).op=31\/(aX p.code i).op=32:=by
  rcases kP (aX p.code i).op with q | q | q | q | q
  · omega
  · omega
  · omega
  · omega
  · exact absurd (cls_0 q) o1
 have outT:∀ k:Int,0<=k->k<(p.outs.length:Int)->kAt p.outs k≠0:=fun k h0 h1 e=>by
  have:=(fD.1 m2).1 k.toNat aS;unfold kAt at e;rw[if_neg aS] at e;unfold ba at this;omega
 have cellT:∀ k:Int,0<=k->k<(p.cells.length:Int)->(cJ p.cells k.toNat).1≠0:=fun k h0 h1 e=>by
  have:=m7 k.toNat aS;unfold fu at this;rw[e] at this;simp at this
 generalize aX p.code i=x at *;have a1:x.a<p.regs:=by
  rcases g with g | g
  · unfold dD at t;rw[fO aS,if_neg bj,if_neg aS,if_neg aS,if_neg aS] at t
    by_cases q:x.op=29
    · rw[if_pos q] at t;simp only[ax,aq] at t;have:=outT x.k t.1 t.2.1;exact (iC (by rw[t.2.2];exact this)).2.1
    · rw[if_neg q] at t
      by_cases q2:x.op=32
      · rw[if_pos q2] at t;simp only[ax,aq] at t;have:=cellT x.k t.1 t.2.1;exact (iC (by rw[t.2.2];exact this)).2.1
      · rw[if_neg q2,if_pos aS] at t;simp only[ax,aq] at t;exact (iC (by rw[t.2.2];decide)).2.1
  · exact g.1
 have tb:x.op=3\/(5<=x.op/\x.op<=20)\/x.op=27->bG p i x.b≠0:=fun q=>by
  unfold dD at t;rcases q with q | q | q
  · rw[fO aS,if_neg bj,if_neg aS,if_pos q] at t;exact of_decide_eq_true t
  · rw[mn _ q,if_pos rfl] at t;simp only[ax,aq] at t;exact t.1
  · rw[fO aS,if_neg bj,if_neg aS,if_neg aS,if_pos q] at t;simp only[ax,aq] at t;rw[t.1];decide
 have tc:(7<=x.op/\x.op<=20)\/x.op=27->bG p i x.c≠0:=fun q=>by
  unfold dD at t;rcases q with q | q
  · rw[mn _ aS,if_pos rfl] at t;simp only[ax,Bool.or_eq_true,aq] at t;rcases t.2.2 with e | e
    · omega
    · rw[e];exact t.1
  · rw[fO aS,if_neg bj,if_neg aS,if_neg aS,if_pos q] at t;simp only[ax,aq] at t;exact t.2.1
 have tkk:x.op=27->bG p i x.k≠0:=fun q=>by
  unfold dD at t;rw[fO aS,if_neg bj,if_neg aS,if_neg aS,if_pos q] at t;simp only[ax,aq] at t;rw[t.2.2];exact t.2.1
 have nea:x.op<29->∀ r,bG p i r≠0->x.a≠r:=fun q r hr e=>by
  have g0:dj p i x.a=0:=by
   rcases g with g | g
   · omega
   · exact g.2.1
  rw[e,(iC hr).2.2] at g0;exact hr g0
 refine⟨o2,a1,fun q=>⟨(iC (tb q)).1,(iC (tb q)).2.1⟩,fun q=>⟨(iC (tc q)).1,(iC (tc q)).2.1⟩,fun q=>⟨⟨(iC (tkk q)).1,(iC (tkk q)).2.1⟩,nea aS _ (tb (.inr (.inr q))),nea aS _ (tc (.inr q))⟩,fun q=>?_,fun q=>?_,fun q=>?_,fun q=>?_,fun q=>nea aS _ (tb q),fun q=>nea aS _ (tc q),fun q=>nea aS _ (tkk q),hop⟩
 · rcases q with q | q
   · rcases g with g | g
     · omega
     · refine Decidable.byContradiction fun hc=>?_
       have:df p (bG p i) x=0:=by
        unfold df;rw[fO aS,if_neg bj,if_neg aS,if_neg aS,if_neg aS,if_neg aS,if_neg aS]
       omega
   · unfold dD at t;rw[fO aS,if_neg bj,if_neg aS,if_neg aS,if_neg aS,if_neg aS,if_pos q] at t;simp only[ax,aq] at t;exact⟨t.1,t.2.1⟩
 · rcases g with g | g
   · omega
   · refine Decidable.byContradiction fun hc=>?_
     have:df p (bG p i) x=0:=by
      unfold df;rw[fO aS,if_neg bj,if_neg aS,if_neg aS,if_neg aS,if_neg aS,if_neg aS]
     omega
 · unfold dD at t;rw[fO aS,if_neg bj,if_neg aS,if_neg aS,if_neg aS,if_pos q] at t;simp only[ax,aq] at t;exact⟨t.1,t.2.1⟩
 · unfold dD at t;rw[fO aS,if_neg bj,if_neg aS,if_neg aS,if_neg aS,if_neg aS,if_neg aS,if_pos q] at t;simp only[ax,aq] at t;exact⟨t.1,t.2.1⟩
end
structure VOk (p:PV)(s:VS):Prop where
 rl:(s.regs.length:Int)=p.regs
 nl:s.next.length=p.cells.length
 ol:s.out.length=p.outs.length
 rr:∀ z ∈ s.regs,In64 z
 nr:∀ z ∈ s.next,In64 z
 or_:∀ z ∈ s.out,In64 z
theorem jA (h:∀ z ∈ l,In64 z)(n:Int):In64 (atK l n):=by
 unfold atK ba;rw[ag]
 by_cases q:n.toNat<l.length
 · rw[ap q];exact h _ (List.getElem_mem q)
 · rw[aE aS];unfold In64;simp
theorem putK_in (h:∀ z ∈ l,In64 z)(n:Int){v:Int}(hv:In64 v):∀ z ∈ putK l n v,In64 z:=fun z hz=>by
 rcases List.mem_or_eq_of_mem_set hz with q | q
 · exact h z q
 · rw[q];exact hv
theorem giveK_in {x:Ins}{r:List Int}(hr:∀ z ∈ r,In64 z)(hc:∀ z ∈ cells,In64 z)(hi:∀ z ∈ ins,In64 z)(hk:In64 x.k):In64 (iB cells ins x r):=by
 unfold iB
 repeat' (with_reducible refine in_ite ?_ ?_)
 all_goals first | exact jA hr _ | exact jA hc _ | exact jA hi _ | exact oneK_in _ _ | exact doK_in (jA hr _) | exact hk
theorem VOk.exec (h:VOk p s){x:Ins}(hc:∀ z ∈ cells,In64 z)(hi:∀ z ∈ ins,In64 z)(hk:In64 x.k):VOk p (dE cells ins x s):=by
 unfold dE
 split
 · exact⟨h.rl,h.nl,by simp[putK,h.ol],h.rr,h.nr,putK_in h.or_ _ (jA h.rr _)⟩
 · split
   · exact⟨h.rl,by simp[putK,h.nl],h.ol,h.rr,putK_in h.nr _ (jA h.rr _),h.or_⟩
   · split
     · exact⟨h.rl,h.nl,h.ol,h.rr,h.nr,h.or_⟩
     · exact⟨by simp[putK,h.rl],h.nl,h.ol,putK_in h.rr _ (giveK_in h.rr hc hi hk),h.nr,h.or_⟩
theorem VOk.start (hr:0<=p.regs)(hl:cells.length=p.cells.length)(hc:∀ z ∈ cells,In64 z):VOk p (ea p cells):=by
 have hz:∀ n,∀ z ∈ List.replicate n (0:Int),In64 z:=fun n z hz=>by rw[(List.mem_replicate.1 hz).2];unfold In64;omega
 exact⟨by simp[ea];omega,hl,by simp[ea],hz _,hc,hz _⟩
structure VTy (p:PV)(s:VS):Prop where
 r:∀ r:Int,0<=r->dj p p.code.length r=2->atK s.regs r=0\/atK s.regs r=1
 n:∀ k:Int,0<=k->(cJ p.cells k.toNat).1=2->atK s.next k=0\/atK s.next k=1
 o:∀ k:Int,0<=k->kAt p.outs k=2->atK s.out k=0\/atK s.out k=1
theorem atK_put {n k v:Int}(h0:0<=n)(hk:0<=k)(h1:n<(l.length:Int)):atK (putK l n v) k=if k=n then v else atK l k:=by
 unfold atK putK ba;rw[ag,ag,List.getElem?_set]
 by_cases h:k=n
 · subst h;rw[if_pos rfl,if_pos aS,if_pos rfl];rfl
 · rw[if_neg aS,if_neg h]
theorem kind_later (hok:∀ i,i<p.code.length->okR p i=true)(h:dj p i r≠0):∀ m,i+m<=p.code.length->dj p (i+m) r=dj p i r:=by
 intro m
 induction m with
 | zero=>intro _;rfl
 | succ m ih=>
   intro hm;have e:=ih aS;rw[show i+(m+1)=(i+m)+1 by omega,hJ]
   by_cases q:29<=(aX p.code (i+m)).op\/(aX p.code (i+m)).a≠r
   · rw[if_pos q];exact e
   · obtain⟨_,g⟩:=nR (hok (i+m) aS);rcases g with g | g
     · exact absurd (.inl g) q
     · have e3:(aX p.code (i+m)).a=r:=aS;rw[e3,e] at g;exact absurd g.2.1 h
theorem px (hok:∀ i,i<p.code.length->okR p i=true)(hi:i<=p.code.length)(h:dj p i r≠0):dj p p.code.length r=dj p i r:=by
 have:=kind_later hok h (p.code.length - i) aS;rw[show i+(p.code.length - i)=p.code.length by omega] at this;exact this
theorem taken_final (hok:∀ i,i<p.code.length->okR p i=true)(hi:i<=p.code.length)(h:bG p i r=2):0<=r/\dj p p.code.length r=2:=by
 obtain⟨h0,_,h2⟩:=iC (show bG p i r≠0 by rw[h];decide);exact⟨h0,by rw[px hok hi (by rw[h2,h];decide),h2,h]⟩
theorem flagK_01 (b:Bool):dm b=0\/dm b=1:=by cases b <;> simp[dm]
theorem ite_01 {c:Prop} [Decidable c]{a b:Int}(h1:a=0\/a=1)(h2:b=0\/b=1):(if c then a else b)=0\/(if c then a else b)=1:=by split <;> assumption
theorem VTy.exec (hv:dG p=true)(h:VTy p s)(ho:VOk p s)(hi:i<p.code.length)
 (hc:∀ k:Int,0<=k->(cJ p.cells k.toNat).1=2->atK cells k=0\/atK cells k=1) (hin:∀ k:Int,0<=k->kAt p.ins k=2->atK ins k=0\/atK ins k=1):VTy p (dE cells ins (aX p.code i) s):=by
 have hs:=safe_of hv hi;obtain⟨hm,hok⟩:=jd hv;obtain⟨t,g⟩:=nR (hok i hi);have hkx:(aX p.code i).op<29->dj p p.code.length (aX p.code i).a=df p (bG p i) (aX p.code i):=fun q=>by
  rcases g with g | g
  · omega
  · have e:dj p (i+1) (aX p.code i).a=df p (bG p i) (aX p.code i):=by
     rw[hJ,if_neg aS,if_neg (by rw[g.2.1];decide)]
    rw[px hok (i:=i+1) aS (by rw[e];omega),e]
 have tf:=fun {r:Int} (q:bG p i r=2)=>taken_final hok (Nat.le_of_lt hi) q
 generalize aX p.code i=x at *;unfold dE
 split
 · rename_i q;obtain⟨k0,k1⟩:=hs.k29 q;refine⟨h.r,h.n,fun k hk e=>?_⟩
   show atK (putK s.out x.k _) k=0\/atK (putK s.out x.k _) k=1
   rw[atK_put k0 hk (by rw[ho.ol];exact k1)]
   by_cases q2:k=x.k
   · rw[if_pos q2];unfold dD at t;rw[fO aS,if_neg bj,if_neg aS,if_neg aS,if_neg aS,if_pos q] at t;simp only[ax,aq] at t;obtain⟨e0,e1⟩:=tf (t.2.2.trans (by rw[<- q2];exact e));exact h.r _ e0 e1
   · rw[if_neg q2];exact h.o k hk e
 · split
   · rename_i q;obtain⟨k0,k1⟩:=hs.k21 (.inr q);refine⟨h.r,fun k hk e=>?_,h.o⟩
     show atK (putK s.next x.k _) k=0\/atK (putK s.next x.k _) k=1
     rw[atK_put k0 hk (by rw[ho.nl];exact k1)]
     by_cases q2:k=x.k
     · rw[if_pos q2];unfold dD at t;rw[fO aS,if_neg bj,if_neg aS,if_neg aS,if_neg aS,if_neg aS,if_pos q] at t;simp only[ax,aq] at t;obtain⟨e0,e1⟩:=tf (t.2.2.trans (by rw[<- q2];exact e));exact h.r _ e0 e1
     · rw[if_neg q2];exact h.n k hk e
   · split
     · exact⟨h.r,h.n,h.o⟩
     · rename_i q29 q32 q30;have hop:=hs.op;refine⟨fun r hr e=>?_,h.n,h.o⟩
       show atK (putK s.regs x.a _) r=0\/atK (putK s.regs x.a _) r=1
       rw[atK_put hs.a0 hr (by rw[ho.rl];exact hs.a1)]
       by_cases q2:r=x.a
       · rw[if_pos q2];rw[q2,hkx aS] at e;unfold df at e;unfold dD at t;unfold iB
         by_cases c3:x.op=3
         · rw[fO aS,if_neg bj,if_neg aS,if_pos c3] at e;rw[if_pos c3];obtain⟨e0,e1⟩:=tf e;exact h.r _ e0 e1
         · rw[if_neg c3]
           by_cases c5:x.op=5\/x.op=6
           · rw[if_pos c5];rw[mn _ aS,if_pos rfl] at e;rcases c5 with c5 | c5
             · rw[c5] at e;exact absurd e aU
             · unfold oneK;rw[if_neg aS,if_pos c5];exact flagK_01 _
           · rw[if_neg c5]
             by_cases c27:x.op=27
             · rw[if_pos c27];rw[fO aS,if_neg bj,if_neg aS,if_neg aS,if_pos c27] at t;rw[fO aS,if_neg bj,if_neg aS,if_neg aS,if_pos c27] at e;simp only[ax,aq] at t;obtain⟨e0,e1⟩:=tf e;obtain⟨f0,f1⟩:=tf (t.2.2.trans e)
               split
               · exact h.r _ e0 e1
               · exact h.r _ f0 f1
             · rw[if_neg c27]
               by_cases c21:x.op=21
               · obtain⟨k0,k1⟩:=hs.k21 (.inl c21);rw[fO aS,if_neg bj,if_neg aS,if_neg aS,if_neg aS,if_pos ⟨c21,k0,k1⟩] at e;rw[if_pos c21];exact hc _ k0 e
               · rw[if_neg c21]
                 by_cases c28:x.op=28
                 · obtain⟨k0,k1⟩:=hs.k28 c28;rw[fO aS,if_neg bj,if_neg aS,if_neg aS,if_neg aS,if_neg aS,if_pos ⟨c28,k0,k1⟩] at e;rw[if_pos c28];exact hin _ k0 e
                 · rw[if_neg c28]
                   by_cases c7:7<=x.op/\x.op<=20
                   · rw[if_pos c7];rw[mn _ aS,if_pos rfl] at e;have c12:12<=x.op:=by unfold fF at e;split at e <;> omega
                     unfold doK;rw[if_neg aS,if_neg aS,if_neg aS,if_neg aS,if_neg aS]
                     repeat' (with_reducible refine ite_01 ?_ ?_)
                     all_goals first | exact flagK_01 _ | exact .inl rfl
                   · rw[if_neg c7];rw[fO aS,if_neg bj,if_pos aS] at e;rw[fO aS,if_neg bj,if_pos e] at t;simp only[Bool.or_eq_true,aq] at t;exact t
       · rw[if_neg q2];exact h.r r hr e
theorem runV_ok (hv:dG p=true)(hw:eN p)(hc:∀ k:Int,0<=k->(cJ p.cells k.toNat).1=2->atK cells k=0\/atK cells k=1)(hin:∀ k:Int,0<=k->kAt p.ins k=2->atK ins k=0\/atK ins k=1)
 (hc64:∀ z ∈ cells,In64 z) (hi64:∀ z ∈ ins,In64 z):∀ (n i:Nat) (s:VS),VOk p s->VTy p s->VOk p (runV p cells ins n i s)/\VTy p (runV p cells ins n i s):=by
 intro n
 induction n with
 | zero=>intro i s h1 h2;exact⟨h1,h2⟩
 | succ n ih=>
   intro i s h1 h2;unfold runV
   split
   · rename_i hi;have hk:In64 (aX p.code i).k:=by
      have e:=ap hi;have:=hw.code _ (List.getElem_mem hi);rw[gC e];exact⟨this.2.2.2.1,this.2.2.2.2⟩
     exact ih _ _ (h1.exec hc64 hi64 hk) (h2.exec hv h1 hi hc hin)
   · exact⟨h1,h2⟩
theorem ia :gu p cells=true ↔ cells.length=p.cells.length/\∀ i,i<p.cells.length->okAt (cJ p.cells i).1 (ba cells i)=true:=by
 unfold gu;simp only[ax,iM,aq]
theorem mo (hv:dG p=true)(hw:eN p)(h1:gu p cells=true)(h2:cx p.ins ins=true)(hc64:∀ z ∈ cells,In64 z)(hi64:∀ z ∈ ins,In64 z) :
 (eO p cells ins).2.2.2=0/\gu p (eO p cells ins).1=true/\cx p.outs (eO p cells ins).2.1=true/\(∀ z ∈ (eO p cells ins).1,In64 z)/\(∀ z ∈ (eO p cells ins).2.1,In64 z):=by
 have hm:=(jd hv).1;obtain⟨m1,m2,m3,m4,m5,m6,m7,m8⟩:=dP.1 hm;obtain⟨c1,c2⟩:=ia.1 h1;obtain⟨f1,f2,f3⟩:=js.1 h2;have hc:∀ k:Int,0<=k->(cJ p.cells k.toNat).1=2->atK cells k=0\/atK cells k=1:=fun k h0 e=>by
  by_cases q:k.toNat<p.cells.length
  · exact jr.1 (c2 k.toNat q) e
  · left;unfold atK ba;rw[ag,aE aS];rfl
 have hin:∀ k:Int,0<=k->kAt p.ins k=2->atK ins k=0\/atK ins k=1:=fun k h0 e=>by
  unfold kAt at e;rw[if_neg aS] at e
  by_cases q:k.toNat<p.ins.length
  · exact f3 k.toNat q e
  · left;unfold atK ba;rw[ag,aE aS];rfl
 have z0:∀ (n:Nat) (k:Int),atK (List.replicate n 0) k=0:=fun n k=>by
  unfold atK ba;rw[ag,List.getElem?_replicate]
  split <;> rfl
 have ht:VTy p (ea p cells):=⟨fun r _ _=>.inl (z0 _ _),fun k h0 e=>hc k h0 e,fun k _ _=>.inl (z0 _ _)⟩;obtain⟨r1,r2⟩:=runV_ok hv hw hc hin hc64 hi64 p.code.length 0 (ea p cells) (VOk.start m3 c1 hc64) ht;unfold eO;rw[if_pos (by rw[h1,h2];rfl)];refine⟨rfl,ia.2 ⟨r1.nl,fun i hi=>jr.2 (fun e=>?_)⟩,js.2 ⟨m2,r1.ol,fun i hi e=>?_⟩,r1.nr,r1.or_⟩
 · have:=r2.n (i:Int) aS (by rw[av];exact e);unfold atK at this;rw[av] at this;exact this
 · have:=r2.o (i:Int) aS (by unfold kAt;rw[if_neg aS,av];exact e);unfold atK at this;rw[av] at this;exact this
theorem py (hm:mayB p=true)(hw:eN p):gu p (es p)=true/\∀ z ∈ es p,In64 z:=by
 obtain⟨m1,m2,m3,m4,m5,m6,m7,m8⟩:=dP.1 hm;refine⟨ia.2 ⟨by simp[es],fun i hi=>jr.2 (fun e=>?_)⟩,fun z hz=>?_⟩
 · have h:=m7 i hi;have e2:ba (es p) i=(cJ p.cells i).2:=by
    unfold es ba cJ;rw[ag,ag,List.getElem?_map,ap hi];rfl
   rw[e2];unfold fu at h;rw[e] at h;simpa using h
 · unfold es at hz;rw[List.mem_map] at hz;obtain⟨x,hx,rfl⟩:=hz;exact hw.cells x hx
