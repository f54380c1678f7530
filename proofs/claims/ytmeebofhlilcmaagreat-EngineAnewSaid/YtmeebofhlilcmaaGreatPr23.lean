/- Parts: PlainVm. -/
import Derived.Test.YtmeebofhlilcmaaGreatPr17
import Derived.Test.YtmeebofhlilcmaaGreatPr22
set_option linter.unusedVariables false
set_option linter.unusedSimpArgs false
set_option maxRecDepth 100000
set_option maxHeartbeats 0
namespace Go.Proofs.YtmeebofhlilcmaaGreat
variable {p:PV} {cells ins l:List Int} {i:Nat} {r:Int}
open Go.RowKit
structure VS where
 regs:List Int
 next:List Int
 out:List Int
 steps:Nat
variable {s:VS}
def atK (l:List Int)(n:Int):Int:=aZ l n.toNat
def putK (l:List Int)(n v:Int):List Int:=l.set n.toNat v
def iq (cells ins:List Int)(x:Ins)(r:List Int):Int :=
 if x.op=3 then atK r x.b
 else if x.op=5\/x.op=6 then oneK x.op (atK r x.b)
 else if x.op=27 then (if atK r x.b≠0 then atK r x.c else atK r x.k)
 else if x.op=21 then atK cells x.k
 else if x.op=28 then atK ins x.k
 else if 7<=x.op/\x.op<=20 then doK x.op (atK r x.b) (atK r x.c)
 else x.k
def fw (x:Ins)(r:List Int):Nat:=if (x.op=30/\atK r x.a=0)\/(x.op=31/\atK r x.a≠0) then x.k.toNat else 0
def dj (cells ins:List Int)(x:Ins)(s:VS):VS :=
 if x.op=29 then { s with out:=putK s.out x.k (atK s.regs x.a),steps:=s.steps+1 }
 else if x.op=32 then { s with next:=putK s.next x.k (atK s.regs x.a),steps:=s.steps+1 }
 else if x.op=30\/x.op=31 then { s with steps:=s.steps+1 }
 else { s with regs:=putK s.regs x.a (iq cells ins x s.regs),steps:=s.steps+1 }
def runV (p:PV)(cells ins:List Int):Nat->Nat->VS->VS
 | 0,_,s=>s
 | n+1,i,s=>if i<p.code.length then runV p cells ins n (i+1+fw (aY p.code i) s.regs) (dj cells ins (aY p.code i) s) else s
def goV (p:PV)(cells ins:List Int)(i:Nat)(s:VS):VS:=runV p cells ins p.code.length i s
theorem runV_more (p:PV)(cells ins:List Int):∀ (n m i:Nat) (s:VS),p.code.length<=n+i->p.code.length<=m+i->runV p cells ins n i s=runV p cells ins m i s:=by
 intro n
 induction n with
 | zero=>
   intro m i s h1 h2
   cases m with
   | zero=>rfl
   | succ m=>unfold runV;rw[if_neg aS]
 | succ n ih=>
   intro m i s h1 h2
   cases m with
   | zero=>unfold runV;rw[if_neg aS]
   | succ m=>
     unfold runV
     by_cases hi:i<p.code.length
     · rw[if_pos hi,if_pos hi];exact ih m _ _ aS aS
     · rw[if_neg hi,if_neg hi]
theorem goV_step (hi:i<p.code.length):goV p cells ins i s=goV p cells ins (i+1+fw (aY p.code i) s.regs) (dj cells ins (aY p.code i) s):=by
 unfold goV;rw[runV_more p cells ins p.code.length (p.code.length+1) i s aS aS]
 show (if i<p.code.length then _ else s)=_
 rw[if_pos hi]
theorem goV_end (hi:p.code.length<=i):goV p cells ins i s=s:=by
 unfold goV;rw[runV_more p cells ins p.code.length 0 i s aS aS]
 rfl
def fX (p:PV)(cells:List Int):Bool:=decide (cells.length=p.cells.length) && allK p.cells.length (fun i=>okAt (cZ p.cells i).1 (aZ cells i))
def dR (p:PV)(cells:List Int):VS:=⟨List.replicate p.regs.toNat 0,cells,List.replicate p.outs.length 0,0⟩
def eG (p:PV)(cells ins:List Int):List Int × List Int × Nat × Int :=
 if (fX p cells && cd p.ins ins)=true then ((goV p cells ins 0 (dR p cells)).next,(goV p cells ins 0 (dR p cells)).out,(goV p cells ins 0 (dR p cells)).steps,0) else ([],[],0,41)
def ev (p:PV):List Int:=p.cells.map (·.2)
def fM (l:List (List Int))(i:Nat):List Int:=l.getD i []
def cX (p:PV)(rows:List (List Int)):Nat->List Int
 | 0=>ev p
 | t+1=>(eG p (cX p rows t) (fM rows t)).1
def dx (p:PV)(rows:List (List Int))(t:Nat):List Int:=(eG p (cX p rows t) (fM rows t)).2.1
def cE (p:PV)(rows:List (List Int))(n:Nat):List (List Int):=(List.range n).map (dx p rows)
theorem nA (p:PV)(rows:List (List Int))(n:Nat):cE p rows n ++ [dx p rows n]=cE p rows (n+1):=by unfold cE;rw[List.range_succ,List.map_append];rfl
structure kT (p:PV)(i:Nat)(x:Ins):Prop where
 a0:0<=x.a
 a1:x.a<p.regs
 b:x.op=3\/(5<=x.op/\x.op<=20)\/x.op=27->0<=x.b/\x.b<p.regs
 c:(7<=x.op/\x.op<=20)\/x.op=27->0<=x.c/\x.c<p.regs
 k27:x.op=27->(0<=x.k/\x.k<p.regs)/\x.a≠x.b/\x.a≠x.c
 k21:x.op=21\/x.op=32->0<=x.k/\x.k<(p.cells.length:Int)
 k28:x.op=28->0<=x.k/\x.k<(p.ins.length:Int)
 k29:x.op=29->0<=x.k/\x.k<(p.outs.length:Int)
 k30:x.op=30\/x.op=31->0<=x.k/\x.k<=(p.code.length:Int) - 1 - (i:Int)
 ab:x.op=3\/(5<=x.op/\x.op<=20)\/x.op=27->x.a≠x.b
 ac:(7<=x.op/\x.op<=20)\/x.op=27->x.a≠x.c
 ak:x.op=27->x.a≠x.k
 op:x.op=1\/x.op=2\/x.op=3\/(5<=x.op/\x.op<=20)\/x.op=21\/x.op=27\/x.op=28\/x.op=29\/x.op=30\/x.op=31\/x.op=32
theorem ir (h:bE p i r≠0):0<=r/\r<p.regs/\dP p i r=bE p i r:=by
 unfold bE at h ⊢
 by_cases q:r<0\/p.regs<=r
 · rw[if_pos q] at h;exact absurd rfl h
 · rw[if_neg q];exact⟨aS,aS,rfl⟩
section
variable {p:PV} {i:Nat}
theorem nB (h:okR p i=true):dI p i (aY p.code i)=true/\(29<=(aY p.code i).op\/((aY p.code i).a<p.regs/\dP p i (aY p.code i).a=0/\(dr p (bE p i) (aY p.code i)=1\/dr p (bE p i) (aY p.code i)=2))):=by
 unfold okR at h;simp only[aw,Bool.or_eq_true,aq] at h;exact⟨h.1,h.2.1⟩
theorem iX (h:dZ p=true):mayB p=true/\∀ i,i<p.code.length->okR p i=true:=by
 rw[verify_is] at h;unfold rightR at h;simp only[aw,List.all_eq_true,List.mem_range] at h;exact⟨h.1,fun i hi=>h.2.1 i hi⟩
theorem mc (op:Int)(h:5<=op/\op<=20):gR op=true:=am h
theorem fF {op:Int}(h:op<5\/20<op):gR op=false:=aj aS
theorem safe_of (h:dZ p=true)(hi:i<p.code.length):kT p i (aY p.code i):=by
 obtain⟨hm,hok⟩:=iX h;obtain⟨m1,m2,m3,m4,m5,m6,m7,m8⟩:=dU.1 hm;have hio:=of_decide_eq_true (m8 i hi);obtain⟨o1,o2,o3,o4,o5,o6,o7⟩:=hio;obtain⟨t,g⟩:=nB (hok i hi);have hop:(aY p.code i).op=1\/(aY p.code i).op=2\/(aY p.code i).op=3\/(5<=(aY p.code i).op/\(aY p.code i).op<=20)\/(aY p.code i).op=21\/(aY p.code i).op=27\/(aY p.code i).op=28\/(aY p.code i).op=29\/(aY p.code i).op=30\/(aY p.code i).op=31\/(aY p.code i).op=32:=by
  rcases lF (aY p.code i).op with q | q | q | q | q
  · omega
  · omega
  · omega
  · omega
  · exact absurd (cls_0 q) o1
 have outT:∀ k:Int,0<=k->k<(p.outs.length:Int)->kAt p.outs k≠0:=fun k h0 h1 e=>by
  have:=(fJ.1 m2).1 k.toNat aS;unfold kAt at e;rw[if_neg aS] at e;unfold aZ at this;omega
 have cellT:∀ k:Int,0<=k->k<(p.cells.length:Int)->(cZ p.cells k.toNat).1≠0:=fun k h0 h1 e=>by
  have:=m7 k.toNat aS;unfold fP at this;rw[e] at this;simp at this
 generalize aY p.code i=x at *;have a1:x.a<p.regs:=by
  rcases g with g | g
  · unfold dI at t;rw[fF aS,if_neg a8,if_neg aS,if_neg aS,if_neg aS] at t
    by_cases q:x.op=29
    · rw[if_pos q] at t;simp only[aw,aq] at t;have:=outT x.k t.1 t.2.1;exact (ir (by rw[t.2.2];exact this)).2.1
    · rw[if_neg q] at t
      by_cases q2:x.op=32
      · rw[if_pos q2] at t;simp only[aw,aq] at t;have:=cellT x.k t.1 t.2.1;exact (ir (by rw[t.2.2];exact this)).2.1
      · rw[if_neg q2,if_pos aS] at t;simp only[aw,aq] at t;exact (ir (by rw[t.2.2];decide)).2.1
  · exact g.1
 have tb:x.op=3\/(5<=x.op/\x.op<=20)\/x.op=27->bE p i x.b≠0:=fun q=>by
  unfold dI at t;rcases q with q | q | q
  · rw[fF aS,if_neg a8,if_neg aS,if_pos q] at t;exact of_decide_eq_true t
  · rw[mc _ q,if_pos rfl] at t;simp only[aw,aq] at t;exact t.1
  · rw[fF aS,if_neg a8,if_neg aS,if_neg aS,if_pos q] at t;simp only[aw,aq] at t;rw[t.1];decide
 have tc:(7<=x.op/\x.op<=20)\/x.op=27->bE p i x.c≠0:=fun q=>by
  unfold dI at t;rcases q with q | q
  · rw[mc _ aS,if_pos rfl] at t;simp only[aw,Bool.or_eq_true,aq] at t;rcases t.2.2 with e | e
    · omega
    · rw[e];exact t.1
  · rw[fF aS,if_neg a8,if_neg aS,if_neg aS,if_pos q] at t;simp only[aw,aq] at t;exact t.2.1
 have tkk:x.op=27->bE p i x.k≠0:=fun q=>by
  unfold dI at t;rw[fF aS,if_neg a8,if_neg aS,if_neg aS,if_pos q] at t;simp only[aw,aq] at t;rw[t.2.2];exact t.2.1
 have nea:x.op<29->∀ r,bE p i r≠0->x.a≠r:=fun q r hr e=>by
  have g0:dP p i x.a=0:=by
   rcases g with g | g
   · omega
   · exact g.2.1
  rw[e,(ir hr).2.2] at g0;exact hr g0
 refine⟨o2,a1,fun q=>⟨(ir (tb q)).1,(ir (tb q)).2.1⟩,fun q=>⟨(ir (tc q)).1,(ir (tc q)).2.1⟩,fun q=>⟨⟨(ir (tkk q)).1,(ir (tkk q)).2.1⟩,nea aS _ (tb (.inr (.inr q))),nea aS _ (tc (.inr q))⟩,fun q=>?_,fun q=>?_,fun q=>?_,fun q=>?_,fun q=>nea aS _ (tb q),fun q=>nea aS _ (tc q),fun q=>nea aS _ (tkk q),hop⟩
 · rcases q with q | q
   · rcases g with g | g
     · omega
     · refine Decidable.byContradiction fun hc=>?_
       have:dr p (bE p i) x=0:=by
        unfold dr;rw[fF aS,if_neg a8,if_neg aS,if_neg aS,if_neg aS,if_neg aS,if_neg aS]
       omega
   · unfold dI at t;rw[fF aS,if_neg a8,if_neg aS,if_neg aS,if_neg aS,if_neg aS,if_pos q] at t;simp only[aw,aq] at t;exact⟨t.1,t.2.1⟩
 · rcases g with g | g
   · omega
   · refine Decidable.byContradiction fun hc=>?_
     have:dr p (bE p i) x=0:=by
      unfold dr;rw[fF aS,if_neg a8,if_neg aS,if_neg aS,if_neg aS,if_neg aS,if_neg aS]
     omega
 · unfold dI at t;rw[fF aS,if_neg a8,if_neg aS,if_neg aS,if_neg aS,if_pos q] at t;simp only[aw,aq] at t;exact⟨t.1,t.2.1⟩
 · unfold dI at t;rw[fF aS,if_neg a8,if_neg aS,if_neg aS,if_neg aS,if_neg aS,if_neg aS,if_pos q] at t;simp only[aw,aq] at t;exact⟨t.1,t.2.1⟩
end
structure VOk (p:PV)(s:VS):Prop where
 rl:(s.regs.length:Int)=p.regs
 nl:s.next.length=p.cells.length
 ol:s.out.length=p.outs.length
 rr:∀ z ∈ s.regs,In64 z
 nr:∀ z ∈ s.next,In64 z
 or_:∀ z ∈ s.out,In64 z
theorem jw (h:∀ z ∈ l,In64 z)(n:Int):In64 (atK l n):=by
 unfold atK aZ;rw[af]
 by_cases q:n.toNat<l.length
 · rw[ap q];exact h _ (List.getElem_mem q)
 · rw[aE aS];unfold In64;simp
theorem putK_in (h:∀ z ∈ l,In64 z)(n:Int){v:Int}(hv:In64 v):∀ z ∈ putK l n v,In64 z:=fun z hz=>by
 rcases List.mem_or_eq_of_mem_set hz with q | q
 · exact h z q
 · rw[q];exact hv
theorem giveK_in {x:Ins}{r:List Int}(hr:∀ z ∈ r,In64 z)(hc:∀ z ∈ cells,In64 z)(hi:∀ z ∈ ins,In64 z)(hk:In64 x.k):In64 (iq cells ins x r):=by
 unfold iq
 repeat' (with_reducible refine in_ite ?_ ?_)
 all_goals first | exact jw hr _ | exact jw hc _ | exact jw hi _ | exact oneK_in _ _ | exact doK_in (jw hr _) | exact hk
theorem VOk.exec (h:VOk p s){x:Ins}(hc:∀ z ∈ cells,In64 z)(hi:∀ z ∈ ins,In64 z)(hk:In64 x.k):VOk p (dj cells ins x s):=by
 unfold dj
 split
 · exact⟨h.rl,h.nl,by simp[putK,h.ol],h.rr,h.nr,putK_in h.or_ _ (jw h.rr _)⟩
 · split
   · exact⟨h.rl,by simp[putK,h.nl],h.ol,h.rr,putK_in h.nr _ (jw h.rr _),h.or_⟩
   · split
     · exact⟨h.rl,h.nl,h.ol,h.rr,h.nr,h.or_⟩
     · exact⟨by simp[putK,h.rl],h.nl,h.ol,putK_in h.rr _ (giveK_in h.rr hc hi hk),h.nr,h.or_⟩
theorem VOk.start (hr:0<=p.regs)(hl:cells.length=p.cells.length)(hc:∀ z ∈ cells,In64 z):VOk p (dR p cells):=by
 have hz:∀ n,∀ z ∈ List.replicate n (0:Int),In64 z:=fun n z hz=>by rw[(List.mem_replicate.1 hz).2];unfold In64;omega
 exact⟨by simp[dR];omega,hl,by simp[dR],hz _,hc,hz _⟩
structure VTy (p:PV)(s:VS):Prop where
 r:∀ r:Int,0<=r->dP p p.code.length r=2->atK s.regs r=0\/atK s.regs r=1
 n:∀ k:Int,0<=k->(cZ p.cells k.toNat).1=2->atK s.next k=0\/atK s.next k=1
 o:∀ k:Int,0<=k->kAt p.outs k=2->atK s.out k=0\/atK s.out k=1
theorem atK_put {n k v:Int}(h0:0<=n)(hk:0<=k)(h1:n<(l.length:Int)):atK (putK l n v) k=if k=n then v else atK l k:=by
 unfold atK putK aZ;rw[af,af,List.getElem?_set]
 by_cases h:k=n
 · subst h;rw[if_pos rfl,if_pos aS,if_pos rfl];rfl
 · rw[if_neg aS,if_neg h]
theorem kind_later (hok:∀ i,i<p.code.length->okR p i=true)(h:dP p i r≠0):∀ m,i+m<=p.code.length->dP p (i+m) r=dP p i r:=by
 intro m
 induction m with
 | zero=>intro _;rfl
 | succ m ih=>
   intro hm;have e:=ih aS;rw[show i+(m+1)=(i+m)+1 by omega,iH]
   by_cases q:29<=(aY p.code (i+m)).op\/(aY p.code (i+m)).a≠r
   · rw[if_pos q];exact e
   · obtain⟨_,g⟩:=nB (hok (i+m) aS);rcases g with g | g
     · exact absurd (.inl g) q
     · have e3:(aY p.code (i+m)).a=r:=aS;rw[e3,e] at g;exact absurd g.2.1 h
theorem oM (hok:∀ i,i<p.code.length->okR p i=true)(hi:i<=p.code.length)(h:dP p i r≠0):dP p p.code.length r=dP p i r:=by
 have:=kind_later hok h (p.code.length - i) aS;rw[show i+(p.code.length - i)=p.code.length by omega] at this;exact this
theorem taken_final (hok:∀ i,i<p.code.length->okR p i=true)(hi:i<=p.code.length)(h:bE p i r=2):0<=r/\dP p p.code.length r=2:=by
 obtain⟨h0,_,h2⟩:=ir (show bE p i r≠0 by rw[h];decide);exact⟨h0,by rw[oM hok hi (by rw[h2,h];decide),h2,h]⟩
theorem flagK_01 (b:Bool):cW b=0\/cW b=1:=by cases b <;> simp[cW]
theorem ite_01 {c:Prop} [Decidable c]{a b:Int}(h1:a=0\/a=1)(h2:b=0\/b=1):(if c then a else b)=0\/(if c then a else b)=1:=by split <;> assumption
theorem VTy.exec (hv:dZ p=true)(h:VTy p s)(ho:VOk p s)(hi:i<p.code.length)
 (hc:∀ k:Int,0<=k->(cZ p.cells k.toNat).1=2->atK cells k=0\/atK cells k=1) (hin:∀ k:Int,0<=k->kAt p.ins k=2->atK ins k=0\/atK ins k=1):VTy p (dj cells ins (aY p.code i) s):=by
 have hs:=safe_of hv hi;obtain⟨hm,hok⟩:=iX hv;obtain⟨t,g⟩:=nB (hok i hi);have hkx:(aY p.code i).op<29->dP p p.code.length (aY p.code i).a=dr p (bE p i) (aY p.code i):=fun q=>by
  rcases g with g | g
  · omega
  · have e:dP p (i+1) (aY p.code i).a=dr p (bE p i) (aY p.code i):=by
     rw[iH,if_neg aS,if_neg (by rw[g.2.1];decide)]
    rw[oM hok (i:=i+1) aS (by rw[e];omega),e]
 have tf:=fun {r:Int} (q:bE p i r=2)=>taken_final hok (Nat.le_of_lt hi) q
 generalize aY p.code i=x at *;unfold dj
 split
 · rename_i q;obtain⟨k0,k1⟩:=hs.k29 q;refine⟨h.r,h.n,fun k hk e=>?_⟩
   show atK (putK s.out x.k _) k=0\/atK (putK s.out x.k _) k=1
   rw[atK_put k0 hk (by rw[ho.ol];exact k1)]
   by_cases q2:k=x.k
   · rw[if_pos q2];unfold dI at t;rw[fF aS,if_neg a8,if_neg aS,if_neg aS,if_neg aS,if_pos q] at t;simp only[aw,aq] at t;obtain⟨e0,e1⟩:=tf (t.2.2.trans (by rw[<- q2];exact e));exact h.r _ e0 e1
   · rw[if_neg q2];exact h.o k hk e
 · split
   · rename_i q;obtain⟨k0,k1⟩:=hs.k21 (.inr q);refine⟨h.r,fun k hk e=>?_,h.o⟩
     show atK (putK s.next x.k _) k=0\/atK (putK s.next x.k _) k=1
     rw[atK_put k0 hk (by rw[ho.nl];exact k1)]
     by_cases q2:k=x.k
     · rw[if_pos q2];unfold dI at t;rw[fF aS,if_neg a8,if_neg aS,if_neg aS,if_neg aS,if_neg aS,if_pos q] at t;simp only[aw,aq] at t;obtain⟨e0,e1⟩:=tf (t.2.2.trans (by rw[<- q2];exact e));exact h.r _ e0 e1
     · rw[if_neg q2];exact h.n k hk e
   · split
     · exact⟨h.r,h.n,h.o⟩
     · rename_i q29 q32 q30;have hop:=hs.op;refine⟨fun r hr e=>?_,h.n,h.o⟩
       show atK (putK s.regs x.a _) r=0\/atK (putK s.regs x.a _) r=1
       rw[atK_put hs.a0 hr (by rw[ho.rl];exact hs.a1)]
       by_cases q2:r=x.a
       · rw[if_pos q2];rw[q2,hkx aS] at e;unfold dr at e;unfold dI at t;unfold iq
         by_cases c3:x.op=3
         · rw[fF aS,if_neg a8,if_neg aS,if_pos c3] at e;rw[if_pos c3];obtain⟨e0,e1⟩:=tf e;exact h.r _ e0 e1
         · rw[if_neg c3]
           by_cases c5:x.op=5\/x.op=6
           · rw[if_pos c5];rw[mc _ aS,if_pos rfl] at e;rcases c5 with c5 | c5
             · rw[c5] at e;exact absurd e aU
             · unfold oneK;rw[if_neg aS,if_pos c5];exact flagK_01 _
           · rw[if_neg c5]
             by_cases c27:x.op=27
             · rw[if_pos c27];rw[fF aS,if_neg a8,if_neg aS,if_neg aS,if_pos c27] at t;rw[fF aS,if_neg a8,if_neg aS,if_neg aS,if_pos c27] at e;simp only[aw,aq] at t;obtain⟨e0,e1⟩:=tf e;obtain⟨f0,f1⟩:=tf (t.2.2.trans e)
               split
               · exact h.r _ e0 e1
               · exact h.r _ f0 f1
             · rw[if_neg c27]
               by_cases c21:x.op=21
               · obtain⟨k0,k1⟩:=hs.k21 (.inl c21);rw[fF aS,if_neg a8,if_neg aS,if_neg aS,if_neg aS,if_pos ⟨c21,k0,k1⟩] at e;rw[if_pos c21];exact hc _ k0 e
               · rw[if_neg c21]
                 by_cases c28:x.op=28
                 · obtain⟨k0,k1⟩:=hs.k28 c28;rw[fF aS,if_neg a8,if_neg aS,if_neg aS,if_neg aS,if_neg aS,if_pos ⟨c28,k0,k1⟩] at e;rw[if_pos c28];exact hin _ k0 e
                 · rw[if_neg c28]
                   by_cases c7:7<=x.op/\x.op<=20
                   · rw[if_pos c7];rw[mc _ aS,if_pos rfl] at e;have c12:12<=x.op:=by unfold gg at e;split at e <;> omega
                     unfold doK;rw[if_neg aS,if_neg aS,if_neg aS,if_neg aS,if_neg aS]
                     repeat' (with_reducible refine ite_01 ?_ ?_)
                     all_goals first | exact flagK_01 _ | exact .inl rfl
                   · rw[if_neg c7];rw[fF aS,if_neg a8,if_pos aS] at e;rw[fF aS,if_neg a8,if_pos e] at t;simp only[Bool.or_eq_true,aq] at t;exact t
       · rw[if_neg q2];exact h.r r hr e
theorem runV_ok (hv:dZ p=true)(hw:fe p)(hc:∀ k:Int,0<=k->(cZ p.cells k.toNat).1=2->atK cells k=0\/atK cells k=1)(hin:∀ k:Int,0<=k->kAt p.ins k=2->atK ins k=0\/atK ins k=1)
 (hc64:∀ z ∈ cells,In64 z) (hi64:∀ z ∈ ins,In64 z):∀ (n i:Nat) (s:VS),VOk p s->VTy p s->VOk p (runV p cells ins n i s)/\VTy p (runV p cells ins n i s):=by
 intro n
 induction n with
 | zero=>intro i s h1 h2;exact⟨h1,h2⟩
 | succ n ih=>
   intro i s h1 h2;unfold runV
   split
   · rename_i hi;have hk:In64 (aY p.code i).k:=by
      have e:=ap hi;have:=hw.code _ (List.getElem_mem hi);rw[jn e];exact⟨this.2.2.2.1,this.2.2.2.2⟩
     exact ih _ _ (h1.exec hc64 hi64 hk) (h2.exec hv h1 hi hc hin)
   · exact⟨h1,h2⟩
theorem gS :fX p cells=true ↔ cells.length=p.cells.length/\∀ i,i<p.cells.length->okAt (cZ p.cells i).1 (aZ cells i)=true:=by
 unfold fX;simp only[aw,iE,aq]
theorem me (hv:dZ p=true)(hw:fe p)(h1:fX p cells=true)(h2:cd p.ins ins=true)(hc64:∀ z ∈ cells,In64 z)(hi64:∀ z ∈ ins,In64 z) :
 (eG p cells ins).2.2.2=0/\fX p (eG p cells ins).1=true/\cd p.outs (eG p cells ins).2.1=true/\(∀ z ∈ (eG p cells ins).1,In64 z)/\(∀ z ∈ (eG p cells ins).2.1,In64 z):=by
 have hm:=(iX hv).1;obtain⟨m1,m2,m3,m4,m5,m6,m7,m8⟩:=dU.1 hm;obtain⟨c1,c2⟩:=gS.1 h1;obtain⟨f1,f2,f3⟩:=iO.1 h2;have hc:∀ k:Int,0<=k->(cZ p.cells k.toNat).1=2->atK cells k=0\/atK cells k=1:=fun k h0 e=>by
  by_cases q:k.toNat<p.cells.length
  · exact jm.1 (c2 k.toNat q) e
  · left;unfold atK aZ;rw[af,aE aS];rfl
 have hin:∀ k:Int,0<=k->kAt p.ins k=2->atK ins k=0\/atK ins k=1:=fun k h0 e=>by
  unfold kAt at e;rw[if_neg aS] at e
  by_cases q:k.toNat<p.ins.length
  · exact f3 k.toNat q e
  · left;unfold atK aZ;rw[af,aE aS];rfl
 have z0:∀ (n:Nat) (k:Int),atK (List.replicate n 0) k=0:=fun n k=>by
  unfold atK aZ;rw[af,List.getElem?_replicate]
  split <;> rfl
 have ht:VTy p (dR p cells):=⟨fun r _ _=>.inl (z0 _ _),fun k h0 e=>hc k h0 e,fun k _ _=>.inl (z0 _ _)⟩;obtain⟨r1,r2⟩:=runV_ok hv hw hc hin hc64 hi64 p.code.length 0 (dR p cells) (VOk.start m3 c1 hc64) ht;unfold eG;rw[if_pos (by rw[h1,h2];rfl)];refine⟨rfl,gS.2 ⟨r1.nl,fun i hi=>jm.2 (fun e=>?_)⟩,iO.2 ⟨m2,r1.ol,fun i hi e=>?_⟩,r1.nr,r1.or_⟩
 · have:=r2.n (i:Int) aS (by rw[ax];exact e);unfold atK at this;rw[ax] at this;exact this
 · have:=r2.o (i:Int) aS (by unfold kAt;rw[if_neg aS,ax];exact e);unfold atK at this;rw[ax] at this;exact this
theorem oN (hm:mayB p=true)(hw:fe p):fX p (ev p)=true/\∀ z ∈ ev p,In64 z:=by
 obtain⟨m1,m2,m3,m4,m5,m6,m7,m8⟩:=dU.1 hm;refine⟨gS.2 ⟨by simp[ev],fun i hi=>jm.2 (fun e=>?_)⟩,fun z hz=>?_⟩
 · have h:=m7 i hi;have e2:aZ (ev p) i=(cZ p.cells i).2:=by
    unfold ev aZ cZ;rw[af,af,List.getElem?_map,ap hi];rfl
   rw[e2];unfold fP at h;rw[e] at h;simpa using h
 · unfold ev at hz;rw[List.mem_map] at hz;obtain⟨x,hx,rfl⟩:=hz;exact hw.cells x hx
end Go.Proofs.YtmeebofhlilcmaaGreat
