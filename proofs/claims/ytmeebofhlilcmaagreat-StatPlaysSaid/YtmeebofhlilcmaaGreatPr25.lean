/- Parts: PlainVm. -/
import Derived.Test.YtmeebofhlilcmaaGreatPr24
set_option linter.unusedVariables false
set_option linter.unusedSimpArgs false
set_option maxRecDepth 100000
set_option maxHeartbeats 0
namespace Go.Proofs.YtmeebofhlilcmaaGreat
variable {p:PV} {cells ins l:List Int} {i:Nat} {r:Int}
open Go.RowKit
structure VS where
 regs:List Int
 next:List Int
 out:List Int
 steps:Nat
variable {s:VS}
def atK (l:List Int)(n:Int):Int:=bj l n.toNat
def putK (l:List Int)(n v:Int):List Int:=l.set n.toNat v
def giveK (cells ins:List Int)(x:Ins)(r:List Int):Int :=
 if x.op=3 then atK r x.b
 else if x.op=5\/x.op=6 then oneK x.op (atK r x.b)
 else if x.op=27 then (if atK r x.b≠0 then atK r x.c else atK r x.k)
 else if x.op=21 then atK cells x.k
 else if x.op=28 then atK ins x.k
 else if 7<=x.op/\x.op<=20 then doK x.op (atK r x.b) (atK r x.c)
 else x.k
def iH (x:Ins)(r:List Int):Nat:=if (x.op=30/\atK r x.a=0)\/(x.op=31/\atK r x.a≠0) then x.k.toNat else 0
def dS (cells ins:List Int)(x:Ins)(s:VS):VS :=
 if x.op=29 then { s with out:=putK s.out x.k (atK s.regs x.a),steps:=s.steps+1 }
 else if x.op=32 then { s with next:=putK s.next x.k (atK s.regs x.a),steps:=s.steps+1 }
 else if x.op=30\/x.op=31 then { s with steps:=s.steps+1 }
 else { s with regs:=putK s.regs x.a (giveK cells ins x s.regs),steps:=s.steps+1 }
def runV (p:PV)(cells ins:List Int):Nat->Nat->VS->VS
 | 0,_,s=>s
 | n+1,i,s=>if i<p.code.length then runV p cells ins n (i+1+iH (aY p.code i) s.regs) (dS cells ins (aY p.code i) s) else s
def goV (p:PV)(cells ins:List Int)(i:Nat)(s:VS):VS:=runV p cells ins p.code.length i s
theorem runV_more (p:PV)(cells ins:List Int):∀ (n m i:Nat) (s:VS),p.code.length<=n+i->p.code.length<=m+i->runV p cells ins n i s=runV p cells ins m i s:=by
 intro n
 induction n with
 | zero=>
   intro m i s h1 h2
   cases m with
   | zero=>rfl
   | succ m=>unfold runV;rw[if_neg aS]
 | succ n ih=>
   intro m i s h1 h2
   cases m with
   | zero=>unfold runV;rw[if_neg aS]
   | succ m=>
     unfold runV
     by_cases hi:i<p.code.length
     · rw[if_pos hi,if_pos hi];exact ih m _ _ aS aS
     · rw[if_neg hi,if_neg hi]
theorem goV_step (hi:i<p.code.length):goV p cells ins i s=goV p cells ins (i+1+iH (aY p.code i) s.regs) (dS cells ins (aY p.code i) s):=by
 unfold goV;rw[runV_more p cells ins p.code.length (p.code.length+1) i s aS aS]
 show (if i<p.code.length then _ else s)=_
 rw[if_pos hi]
theorem goV_end (hi:p.code.length<=i):goV p cells ins i s=s:=by
 unfold goV;rw[runV_more p cells ins p.code.length 0 i s aS aS]
 rfl
def gM (p:PV)(cells:List Int):Bool:=decide (cells.length=p.cells.length) && allK p.cells.length (fun i=>okAt (dx p.cells i).1 (bj cells i))
def fj (p:PV)(cells:List Int):VS:=⟨List.replicate p.regs.toNat 0,cells,List.replicate p.outs.length 0,0⟩
def fw (p:PV)(cells ins:List Int):List Int × List Int × Nat × Int :=
 if (gM p cells && cI p.ins ins)=true then ((goV p cells ins 0 (fj p cells)).next,(goV p cells ins 0 (fj p cells)).out,(goV p cells ins 0 (fj p cells)).steps,0) else ([],[],0,41)
def fx (p:PV):List Int:=p.cells.map (·.2)
def gC (l:List (List Int))(i:Nat):List Int:=l.getD i []
def ec (p:PV)(rows:List (List Int)):Nat->List Int
 | 0=>fx p
 | t+1=>(fw p (ec p rows t) (gC rows t)).1
def ed (p:PV)(rows:List (List Int))(t:Nat):List Int:=(fw p (ec p rows t) (gC rows t)).2.1
def cQ (p:PV)(rows:List (List Int))(n:Nat):List (List Int):=(List.range n).map (ed p rows)
theorem pA (p:PV)(rows:List (List Int))(n:Nat):cQ p rows n ++ [ed p rows n]=cQ p rows (n+1):=by unfold cQ;rw[List.range_succ,List.map_append];rfl
structure InsSafe (p:PV)(i:Nat)(x:Ins):Prop where
 a0:0<=x.a
 a1:x.a<p.regs
 b:x.op=3\/(5<=x.op/\x.op<=20)\/x.op=27->0<=x.b/\x.b<p.regs
 c:(7<=x.op/\x.op<=20)\/x.op=27->0<=x.c/\x.c<p.regs
 k27:x.op=27->(0<=x.k/\x.k<p.regs)/\x.a≠x.b/\x.a≠x.c
 k21:x.op=21\/x.op=32->0<=x.k/\x.k<(p.cells.length:Int)
 k28:x.op=28->0<=x.k/\x.k<(p.ins.length:Int)
 k29:x.op=29->0<=x.k/\x.k<(p.outs.length:Int)
 k30:x.op=30\/x.op=31->0<=x.k/\x.k<=(p.code.length:Int) - 1 - (i:Int)
 ab:x.op=3\/(5<=x.op/\x.op<=20)\/x.op=27->x.a≠x.b
 ac:(7<=x.op/\x.op<=20)\/x.op=27->x.a≠x.c
 ak:x.op=27->x.a≠x.k
 op:x.op=1\/x.op=2\/x.op=3\/(5<=x.op/\x.op<=20)\/x.op=21\/x.op=27\/x.op=28\/x.op=29\/x.op=30\/x.op=31\/x.op=32
theorem iw (h:bL p i r≠0):0<=r/\r<p.regs/\dX p i r=bL p i r:=by
 unfold bL at h ⊢
 by_cases q:r<0\/p.regs<=r
 · rw[if_pos q] at h;exact absurd rfl h
 · rw[if_neg q];exact⟨aS,aS,rfl⟩
section
variable {p:PV} {i:Nat}
theorem nQ (h:okR p i=true):dN p i (aY p.code i)=true/\(29<=(aY p.code i).op\/((aY p.code i).a<p.regs/\dX p i (aY p.code i).a=0/\(dq p (bL p i) (aY p.code i)=1\/dq p (bL p i) (aY p.code i)=2))):=by
 unfold okR at h;simp only[av,Bool.or_eq_true,aq] at h;exact⟨h.1,h.2.1⟩
theorem jq (h:dw p=true):mayB p=true/\∀ i,i<p.code.length->okR p i=true:=by
 rw[verify_is] at h;unfold rightR at h;simp only[av,List.all_eq_true,List.mem_range] at h;exact⟨h.1,fun i hi=>h.2.1 i hi⟩
theorem ma (op:Int)(h:5<=op/\op<=20):gT op=true:=am h
theorem fI {op:Int}(h:op<5\/20<op):gT op=false:=aj aS
theorem safe_of (h:dw p=true)(hi:i<p.code.length):InsSafe p i (aY p.code i):=by
 obtain⟨hm,hok⟩:=jq h;obtain⟨m1,m2,m3,m4,m5,m6,m7,m8⟩:=ey.1 hm;have hio:=of_decide_eq_true (m8 i hi);obtain⟨o1,o2,o3,o4,o5,o6,o7⟩:=hio;obtain⟨t,g⟩:=nQ (hok i hi);have hop:(aY p.code i).op=1\/(aY p.code i).op=2\/(aY p.code i).op=3\/(5<=(aY p.code i).op/\(aY p.code i).op<=20)\/(aY p.code i).op=21\/(aY p.code i).op=27\/(aY p.code i).op=28\/(aY p.code i).op=29\/(aY p.code i).op=30\/(aY p.code i).op=31\/(aY p.code i).op=32:=by
  rcases lG (aY p.code i).op with q | q | q | q | q
  · omega
  · omega
  · omega
  · omega
  · exact absurd (cls_0 q) o1
 have outT:∀ k:Int,0<=k->k<(p.outs.length:Int)->kAt p.outs k≠0:=fun k h0 h1 e=>by
  have:=(fQ.1 m2).1 k.toNat aS;unfold kAt at e;rw[if_neg aS] at e;unfold bj at this;omega
 have cellT:∀ k:Int,0<=k->k<(p.cells.length:Int)->(dx p.cells k.toNat).1≠0:=fun k h0 h1 e=>by
  have:=m7 k.toNat aS;unfold gR at this;rw[e] at this;simp at this
 generalize aY p.code i=x at *;have a1:x.a<p.regs:=by
  rcases g with g | g
  · unfold dN at t;rw[fI aS,if_neg aZ,if_neg aS,if_neg aS,if_neg aS] at t
    by_cases q:x.op=29
    · rw[if_pos q] at t;simp only[av,aq] at t;have:=outT x.k t.1 t.2.1;exact (iw (by rw[t.2.2];exact this)).2.1
    · rw[if_neg q] at t
      by_cases q2:x.op=32
      · rw[if_pos q2] at t;simp only[av,aq] at t;have:=cellT x.k t.1 t.2.1;exact (iw (by rw[t.2.2];exact this)).2.1
      · rw[if_neg q2,if_pos aS] at t;simp only[av,aq] at t;exact (iw (by rw[t.2.2];decide)).2.1
  · exact g.1
 have tb:x.op=3\/(5<=x.op/\x.op<=20)\/x.op=27->bL p i x.b≠0:=fun q=>by
  unfold dN at t;rcases q with q | q | q
  · rw[fI aS,if_neg aZ,if_neg aS,if_pos q] at t;exact of_decide_eq_true t
  · rw[ma _ q,if_pos rfl] at t;simp only[av,aq] at t;exact t.1
  · rw[fI aS,if_neg aZ,if_neg aS,if_neg aS,if_pos q] at t;simp only[av,aq] at t;rw[t.1];decide
 have tc:(7<=x.op/\x.op<=20)\/x.op=27->bL p i x.c≠0:=fun q=>by
  unfold dN at t;rcases q with q | q
  · rw[ma _ aS,if_pos rfl] at t;simp only[av,Bool.or_eq_true,aq] at t;rcases t.2.2 with e | e
    · omega
    · rw[e];exact t.1
  · rw[fI aS,if_neg aZ,if_neg aS,if_neg aS,if_pos q] at t;simp only[av,aq] at t;exact t.2.1
 have tkk:x.op=27->bL p i x.k≠0:=fun q=>by
  unfold dN at t;rw[fI aS,if_neg aZ,if_neg aS,if_neg aS,if_pos q] at t;simp only[av,aq] at t;rw[t.2.2];exact t.2.1
 have nea:x.op<29->∀ r,bL p i r≠0->x.a≠r:=fun q r hr e=>by
  have g0:dX p i x.a=0:=by
   rcases g with g | g
   · omega
   · exact g.2.1
  rw[e,(iw hr).2.2] at g0;exact hr g0
 refine⟨o2,a1,fun q=>⟨(iw (tb q)).1,(iw (tb q)).2.1⟩,fun q=>⟨(iw (tc q)).1,(iw (tc q)).2.1⟩,fun q=>⟨⟨(iw (tkk q)).1,(iw (tkk q)).2.1⟩,nea aS _ (tb (.inr (.inr q))),nea aS _ (tc (.inr q))⟩,fun q=>?_,fun q=>?_,fun q=>?_,fun q=>?_,fun q=>nea aS _ (tb q),fun q=>nea aS _ (tc q),fun q=>nea aS _ (tkk q),hop⟩
 · rcases q with q | q
   · rcases g with g | g
     · omega
     · refine Decidable.byContradiction fun hc=>?_
       have:dq p (bL p i) x=0:=by
        unfold dq;rw[fI aS,if_neg aZ,if_neg aS,if_neg aS,if_neg aS,if_neg aS,if_neg aS]
       omega
   · unfold dN at t;rw[fI aS,if_neg aZ,if_neg aS,if_neg aS,if_neg aS,if_neg aS,if_pos q] at t;simp only[av,aq] at t;exact⟨t.1,t.2.1⟩
 · rcases g with g | g
   · omega
   · refine Decidable.byContradiction fun hc=>?_
     have:dq p (bL p i) x=0:=by
      unfold dq;rw[fI aS,if_neg aZ,if_neg aS,if_neg aS,if_neg aS,if_neg aS,if_neg aS]
     omega
 · unfold dN at t;rw[fI aS,if_neg aZ,if_neg aS,if_neg aS,if_neg aS,if_pos q] at t;simp only[av,aq] at t;exact⟨t.1,t.2.1⟩
 · unfold dN at t;rw[fI aS,if_neg aZ,if_neg aS,if_neg aS,if_neg aS,if_neg aS,if_neg aS,if_pos q] at t;simp only[av,aq] at t;exact⟨t.1,t.2.1⟩
end
structure VOk (p:PV)(s:VS):Prop where
 rl:(s.regs.length:Int)=p.regs
 nl:s.next.length=p.cells.length
 ol:s.out.length=p.outs.length
 rr:∀ z ∈ s.regs,In64 z
 nr:∀ z ∈ s.next,In64 z
 or_:∀ z ∈ s.out,In64 z
theorem jN (h:∀ z ∈ l,In64 z)(n:Int):In64 (atK l n):=by
 unfold atK bj;rw[ag]
 by_cases q:n.toNat<l.length
 · rw[ap q];exact h _ (List.getElem_mem q)
 · rw[aL aS];unfold In64;simp
theorem putK_in (h:∀ z ∈ l,In64 z)(n:Int){v:Int}(hv:In64 v):∀ z ∈ putK l n v,In64 z:=fun z hz=>by
 rcases List.mem_or_eq_of_mem_set hz with q | q
 · exact h z q
 · rw[q];exact hv
theorem giveK_in {x:Ins}{r:List Int}(hr:∀ z ∈ r,In64 z)(hc:∀ z ∈ cells,In64 z)(hi:∀ z ∈ ins,In64 z)(hk:In64 x.k):In64 (giveK cells ins x r):=by
 unfold giveK
 repeat' (with_reducible refine in_ite ?_ ?_)
 all_goals first | exact jN hr _ | exact jN hc _ | exact jN hi _ | exact oneK_in _ _ | exact doK_in (jN hr _) | exact hk
theorem VOk.exec (h:VOk p s){x:Ins}(hc:∀ z ∈ cells,In64 z)(hi:∀ z ∈ ins,In64 z)(hk:In64 x.k):VOk p (dS cells ins x s):=by
 unfold dS
 split
 · exact⟨h.rl,h.nl,by simp[putK,h.ol],h.rr,h.nr,putK_in h.or_ _ (jN h.rr _)⟩
 · split
   · exact⟨h.rl,by simp[putK,h.nl],h.ol,h.rr,putK_in h.nr _ (jN h.rr _),h.or_⟩
   · split
     · exact⟨h.rl,h.nl,h.ol,h.rr,h.nr,h.or_⟩
     · exact⟨by simp[putK,h.rl],h.nl,h.ol,putK_in h.rr _ (giveK_in h.rr hc hi hk),h.nr,h.or_⟩
theorem VOk.start (hr:0<=p.regs)(hl:cells.length=p.cells.length)(hc:∀ z ∈ cells,In64 z):VOk p (fj p cells):=by
 have hz:∀ n,∀ z ∈ List.replicate n (0:Int),In64 z:=fun n z hz=>by rw[(List.mem_replicate.1 hz).2];unfold In64;omega
 exact⟨by simp[fj];omega,hl,by simp[fj],hz _,hc,hz _⟩
structure VTy (p:PV)(s:VS):Prop where
 r:∀ r:Int,0<=r->dX p p.code.length r=2->atK s.regs r=0\/atK s.regs r=1
 n:∀ k:Int,0<=k->(dx p.cells k.toNat).1=2->atK s.next k=0\/atK s.next k=1
 o:∀ k:Int,0<=k->kAt p.outs k=2->atK s.out k=0\/atK s.out k=1
theorem atK_put {n k v:Int}(h0:0<=n)(hk:0<=k)(h1:n<(l.length:Int)):atK (putK l n v) k=if k=n then v else atK l k:=by
 unfold atK putK bj;rw[ag,ag,List.getElem?_set]
 by_cases h:k=n
 · subst h;rw[if_pos rfl,if_pos aS,if_pos rfl];rfl
 · rw[if_neg aS,if_neg h]
theorem kind_later (hok:∀ i,i<p.code.length->okR p i=true)(h:dX p i r≠0):∀ m,i+m<=p.code.length->dX p (i+m) r=dX p i r:=by
 intro m
 induction m with
 | zero=>intro _;rfl
 | succ m ih=>
   intro hm;have e:=ih aS;rw[show i+(m+1)=(i+m)+1 by omega,iF]
   by_cases q:29<=(aY p.code (i+m)).op\/(aY p.code (i+m)).a≠r
   · rw[if_pos q];exact e
   · obtain⟨_,g⟩:=nQ (hok (i+m) aS);rcases g with g | g
     · exact absurd (.inl g) q
     · have e3:(aY p.code (i+m)).a=r:=aS;rw[e3,e] at g;exact absurd g.2.1 h
theorem pC (hok:∀ i,i<p.code.length->okR p i=true)(hi:i<=p.code.length)(h:dX p i r≠0):dX p p.code.length r=dX p i r:=by
 have:=kind_later hok h (p.code.length - i) aS;rw[show i+(p.code.length - i)=p.code.length by omega] at this;exact this
theorem taken_final (hok:∀ i,i<p.code.length->okR p i=true)(hi:i<=p.code.length)(h:bL p i r=2):0<=r/\dX p p.code.length r=2:=by
 obtain⟨h0,_,h2⟩:=iw (show bL p i r≠0 by rw[h];decide);exact⟨h0,by rw[pC hok hi (by rw[h2,h];decide),h2,h]⟩
theorem flagK_01 (b:Bool):eF b=0\/eF b=1:=by cases b <;> simp[eF]
theorem ite_01 {c:Prop} [Decidable c]{a b:Int}(h1:a=0\/a=1)(h2:b=0\/b=1):(if c then a else b)=0\/(if c then a else b)=1:=by split <;> assumption
theorem VTy.exec (hv:dw p=true)(h:VTy p s)(ho:VOk p s)(hi:i<p.code.length)
 (hc:∀ k:Int,0<=k->(dx p.cells k.toNat).1=2->atK cells k=0\/atK cells k=1) (hin:∀ k:Int,0<=k->kAt p.ins k=2->atK ins k=0\/atK ins k=1):VTy p (dS cells ins (aY p.code i) s):=by
 have hs:=safe_of hv hi;obtain⟨hm,hok⟩:=jq hv;obtain⟨t,g⟩:=nQ (hok i hi);have hkx:(aY p.code i).op<29->dX p p.code.length (aY p.code i).a=dq p (bL p i) (aY p.code i):=fun q=>by
  rcases g with g | g
  · omega
  · have e:dX p (i+1) (aY p.code i).a=dq p (bL p i) (aY p.code i):=by
     rw[iF,if_neg aS,if_neg (by rw[g.2.1];decide)]
    rw[pC hok (i:=i+1) aS (by rw[e];omega),e]
 have tf:=fun {r:Int} (q:bL p i r=2)=>taken_final hok (Nat.le_of_lt hi) q
 generalize aY p.code i=x at *;unfold dS
 split
 · rename_i q;obtain⟨k0,k1⟩:=hs.k29 q;refine⟨h.r,h.n,fun k hk e=>?_⟩
   show atK (putK s.out x.k _) k=0\/atK (putK s.out x.k _) k=1
   rw[atK_put k0 hk (by rw[ho.ol];exact k1)]
   by_cases q2:k=x.k
   · rw[if_pos q2];unfold dN at t;rw[fI aS,if_neg aZ,if_neg aS,if_neg aS,if_neg aS,if_pos q] at t;simp only[av,aq] at t;obtain⟨e0,e1⟩:=tf (t.2.2.trans (by rw[<- q2];exact e));exact h.r _ e0 e1
   · rw[if_neg q2];exact h.o k hk e
 · split
   · rename_i q;obtain⟨k0,k1⟩:=hs.k21 (.inr q);refine⟨h.r,fun k hk e=>?_,h.o⟩
     show atK (putK s.next x.k _) k=0\/atK (putK s.next x.k _) k=1
     rw[atK_put k0 hk (by rw[ho.nl];exact k1)]
     by_cases q2:k=x.k
     · rw[if_pos q2];unfold dN at t;rw[fI aS,if_neg aZ,if_neg aS,if_neg aS,if_neg aS,if_neg aS,if_pos q] at t;simp only[av,aq] at t;obtain⟨e0,e1⟩:=tf (t.2.2.trans (by rw[<- q2];exact e));exact h.r _ e0 e1
     · rw[if_neg q2];exact h.n k hk e
   · split
     · exact⟨h.r,h.n,h.o⟩
     · rename_i q29 q32 q30;have hop:=hs.op;refine⟨fun r hr e=>?_,h.n,h.o⟩
       show atK (putK s.regs x.a _) r=0\/atK (putK s.regs x.a _) r=1
       rw[atK_put hs.a0 hr (by rw[ho.rl];exact hs.a1)]
       by_cases q2:r=x.a
       · rw[if_pos q2];rw[q2,hkx aS] at e;unfold dq at e;unfold dN at t;unfold giveK
         by_cases c3:x.op=3
         · rw[fI aS,if_neg aZ,if_neg aS,if_pos c3] at e;rw[if_pos c3];obtain⟨e0,e1⟩:=tf e;exact h.r _ e0 e1
         · rw[if_neg c3]
           by_cases c5:x.op=5\/x.op=6
           · rw[if_pos c5];rw[ma _ aS,if_pos rfl] at e;rcases c5 with c5 | c5
             · rw[c5] at e;exact absurd e aU
             · unfold oneK;rw[if_neg aS,if_pos c5];exact flagK_01 _
           · rw[if_neg c5]
             by_cases c27:x.op=27
             · rw[if_pos c27];rw[fI aS,if_neg aZ,if_neg aS,if_neg aS,if_pos c27] at t;rw[fI aS,if_neg aZ,if_neg aS,if_neg aS,if_pos c27] at e;simp only[av,aq] at t;obtain⟨e0,e1⟩:=tf e;obtain⟨f0,f1⟩:=tf (t.2.2.trans e)
               split
               · exact h.r _ e0 e1
               · exact h.r _ f0 f1
             · rw[if_neg c27]
               by_cases c21:x.op=21
               · obtain⟨k0,k1⟩:=hs.k21 (.inl c21);rw[fI aS,if_neg aZ,if_neg aS,if_neg aS,if_neg aS,if_pos ⟨c21,k0,k1⟩] at e;rw[if_pos c21];exact hc _ k0 e
               · rw[if_neg c21]
                 by_cases c28:x.op=28
                 · obtain⟨k0,k1⟩:=hs.k28 c28;rw[fI aS,if_neg aZ,if_neg aS,if_neg aS,if_neg aS,if_neg aS,if_pos ⟨c28,k0,k1⟩] at e;rw[if_pos c28];exact hin _ k0 e
                 · rw[if_neg c28]
                   by_cases c7:7<=x.op/\x.op<=20
                   · rw[if_pos c7];rw[ma _ aS,if_pos rfl] at e;have c12:12<=x.op:=by unfold gq at e;split at e <;> omega
                     unfold doK;rw[if_neg aS,if_neg aS,if_neg aS,if_neg aS,if_neg aS]
                     repeat' (with_reducible refine ite_01 ?_ ?_)
                     all_goals first | exact flagK_01 _ | exact .inl rfl
                   · rw[if_neg c7];rw[fI aS,if_neg aZ,if_pos aS] at e;rw[fI aS,if_neg aZ,if_pos e] at t;simp only[Bool.or_eq_true,aq] at t;exact t
       · rw[if_neg q2];exact h.r r hr e
theorem runV_ok (hv:dw p=true)(hw:el p)(hc:∀ k:Int,0<=k->(dx p.cells k.toNat).1=2->atK cells k=0\/atK cells k=1)(hin:∀ k:Int,0<=k->kAt p.ins k=2->atK ins k=0\/atK ins k=1)
 (hc64:∀ z ∈ cells,In64 z) (hi64:∀ z ∈ ins,In64 z):∀ (n i:Nat) (s:VS),VOk p s->VTy p s->VOk p (runV p cells ins n i s)/\VTy p (runV p cells ins n i s):=by
 intro n
 induction n with
 | zero=>intro i s h1 h2;exact⟨h1,h2⟩
 | succ n ih=>
   intro i s h1 h2;unfold runV
   split
   · rename_i hi;have hk:In64 (aY p.code i).k:=by
      have e:=ap hi;have:=hw.code _ (List.getElem_mem hi);rw[kj e];exact⟨this.2.2.2.1,this.2.2.2.2⟩
     exact ih _ _ (h1.exec hc64 hi64 hk) (h2.exec hv h1 hi hc hin)
   · exact⟨h1,h2⟩
theorem iV :gM p cells=true ↔ cells.length=p.cells.length/\∀ i,i<p.cells.length->okAt (dx p.cells i).1 (bj cells i)=true:=by
 unfold gM;simp only[av,jg,aq]
theorem mb (hv:dw p=true)(hw:el p)(h1:gM p cells=true)(h2:cI p.ins ins=true)(hc64:∀ z ∈ cells,In64 z)(hi64:∀ z ∈ ins,In64 z) :
 (fw p cells ins).2.2.2=0/\gM p (fw p cells ins).1=true/\cI p.outs (fw p cells ins).2.1=true/\(∀ z ∈ (fw p cells ins).1,In64 z)/\(∀ z ∈ (fw p cells ins).2.1,In64 z):=by
 have hm:=(jq hv).1;obtain⟨m1,m2,m3,m4,m5,m6,m7,m8⟩:=ey.1 hm;obtain⟨c1,c2⟩:=iV.1 h1;obtain⟨f1,f2,f3⟩:=jx.1 h2;have hc:∀ k:Int,0<=k->(dx p.cells k.toNat).1=2->atK cells k=0\/atK cells k=1:=fun k h0 e=>by
  by_cases q:k.toNat<p.cells.length
  · exact jw.1 (c2 k.toNat q) e
  · left;unfold atK bj;rw[ag,aL aS];rfl
 have hin:∀ k:Int,0<=k->kAt p.ins k=2->atK ins k=0\/atK ins k=1:=fun k h0 e=>by
  unfold kAt at e;rw[if_neg aS] at e
  by_cases q:k.toNat<p.ins.length
  · exact f3 k.toNat q e
  · left;unfold atK bj;rw[ag,aL aS];rfl
 have z0:∀ (n:Nat) (k:Int),atK (List.replicate n 0) k=0:=fun n k=>by
  unfold atK bj;rw[ag,List.getElem?_replicate]
  split <;> rfl
 have ht:VTy p (fj p cells):=⟨fun r _ _=>.inl (z0 _ _),fun k h0 e=>hc k h0 e,fun k _ _=>.inl (z0 _ _)⟩;obtain⟨r1,r2⟩:=runV_ok hv hw hc hin hc64 hi64 p.code.length 0 (fj p cells) (VOk.start m3 c1 hc64) ht;unfold fw;rw[if_pos (by rw[h1,h2];rfl)];refine⟨rfl,iV.2 ⟨r1.nl,fun i hi=>jw.2 (fun e=>?_)⟩,jx.2 ⟨m2,r1.ol,fun i hi e=>?_⟩,r1.nr,r1.or_⟩
 · have:=r2.n (i:Int) aS (by rw[ay];exact e);unfold atK at this;rw[ay] at this;exact this
 · have:=r2.o (i:Int) aS (by unfold kAt;rw[if_neg aS,ay];exact e);unfold atK at this;rw[ay] at this;exact this
theorem pD (hm:mayB p=true)(hw:el p):gM p (fx p)=true/\∀ z ∈ fx p,In64 z:=by
 obtain⟨m1,m2,m3,m4,m5,m6,m7,m8⟩:=ey.1 hm;refine⟨iV.2 ⟨by simp[fx],fun i hi=>jw.2 (fun e=>?_)⟩,fun z hz=>?_⟩
 · have h:=m7 i hi;have e2:bj (fx p) i=(dx p.cells i).2:=by
    unfold fx bj dx;rw[ag,ag,List.getElem?_map,ap hi];rfl
   rw[e2];unfold gR at h;rw[e] at h;simpa using h
 · unfold fx at hz;rw[List.mem_map] at hz;obtain⟨x,hx,rfl⟩:=hz;exact hw.cells x hx
end Go.Proofs.YtmeebofhlilcmaaGreat
