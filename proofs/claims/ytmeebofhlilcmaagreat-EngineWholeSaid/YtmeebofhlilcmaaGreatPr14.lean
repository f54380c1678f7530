/- Parts. -/
import Derived.Test.YtmeebofhlilcmaaGreatPr13
set_option linter.unusedVariables false
set_option linter.unusedSimpArgs false
set_option maxRecDepth 100000
set_option maxHeartbeats 0
namespace Go.Proofs.YtmeebofhlilcmaaGreat
variable {N N':Secs} {f n m s:Nat} {load:List UInt8} {D:aX} {Q:Says} {ts l:List Int} {rows:List (List Int)}
open Go.RowKit
def iS (N:Secs)(f:Nat):Nat->List UInt8
 | 0=>[]
 | k+1=>iS N f k ++ N (f+(1+k))
def slotO (O:Int × List UInt8 × Int)(N:Secs)(f:Nat):List UInt8 × Int × Int :=
 if O.2.2≠0 then ([],0,53)
 else if O.2.1.length≠12 then ([],0,53)
 else if fx O.2.1<0\/512<fx O.2.1 then ([],0,53)
 else if sumL ((iS N f (cq (fx O.2.1).toNat)).take (fx O.2.1).toNat)=O.2.1.drop 8 then ((iS N f (cq (fx O.2.1).toNat)).take (fx O.2.1).toNat,O.1,0)
 else ([],0,53)
def eg (N:Secs)(f:Nat):List UInt8 × Int × Int:=slotO (eH (N f) 2) N f
theorem openV_err (S:List UInt8)(kind:Int):(eH S kind).2.2=0\/(eH S kind).2.2=53:=by
 unfold eH
 split
 · exact .inl rfl
 · exact .inr rfl
theorem bodyN_same (h:∀ j,f<=j->j<f+5->N' j=N j):∀ k,k<=4->iS N' f k=iS N f k:=by
 intro k
 induction k with
 | zero=>intro _;rfl
 | succ k ih=>
   intro hk;unfold iS;rw[ih aS,h (f+(1+k)) aS aS]
theorem lX (h:∀ j,f<=j->j<f+5->N' j=N j):eg N' f=eg N f:=by
 unfold eg;rw[h f aS aS];generalize eH (N f) 2=O;unfold slotO
 by_cases q1:O.2.2≠0
 · rw[if_pos q1,if_pos q1]
 rw[if_neg q1,if_neg q1]
 by_cases q2:O.2.1.length≠12
 · rw[if_pos q2,if_pos q2]
 rw[if_neg q2,if_neg q2]
 by_cases q3:fx O.2.1<0\/512<fx O.2.1
 · rw[if_pos q3,if_pos q3]
 rw[if_neg q3,if_neg q3,bodyN_same h _ (by unfold cq;omega)]
theorem mO (h:eU (N f) 2=false):(eg N f).2.2=53:=by
 unfold eg slotO eH;rw[h]
 rfl
theorem bodyN_pads (hb:∀ i,i<cq load.length->N (f+(1+i))=padL load i):(iS N f (cq load.length)).take load.length=load:=by
 have h2:load.length<=cq load.length * 128:=by unfold cq;omega
 have key:∀ k,k<=cq load.length->iS N f k=(load ++ List.replicate (cq load.length * 128 - load.length) 0).take (k * 128):=by
  intro k
  induction k with
  | zero=>intro _;rfl
  | succ k ih=>
    intro hk;unfold iS;rw[ih aS,hb k aS,padL_of aS,show (k+1) * 128=k * 128+128 by omega,List.take_add]
 have e:(load ++ List.replicate (cq load.length * 128 - load.length) 0).take (cq load.length * 128)=load ++ List.replicate (cq load.length * 128 - load.length) 0:=au (by rw[az,List.length_replicate];omega);rw[key _ aW,e,List.take_left]
theorem slotN_of (hl:load.length<=512)(hn:n<9223372036854775808)(h0:N f=bT 2 n (dP load))(hb:∀ i,i<cq load.length->N (f+(1+i))=padL load i):eg N f=(load,(n:Int),0):=by
 obtain⟨h1,h2,h3⟩:=og (kind:=2) (n:=n) (load:=dP load) aS aS hn (by rw[lW];omega);have e:(2:Int).toNat=2:=rfl;rw[e] at h1 h2 h3;have ho:eH (N f) 2=((n:Int),dP load,0):=by
  rw[h0];unfold eH;rw[if_pos h1,h2,h3];unfold sg;rw[if_pos hn]
 obtain⟨a1,a2⟩:=headN_of hl;unfold eg;rw[ho];unfold slotO;rw[if_neg ba,if_neg (by rw[lW];simp)];simp only;rw[a1,if_neg aS,ax,bodyN_pads hb,a2,if_pos rfl]
theorem whole_ops :∃ o,(cd D f m).1={ D with ops:=o }:=by
 have h:∃ o,(bN D f m 0).1={ D with ops:=o }:=by
  unfold bN fd
  split
  · exact⟨D.ops,rfl⟩
  · split
    · exact⟨D.ops,rfl⟩
    · exact⟨mAdd D.ops 1 1,rfl⟩
 obtain⟨o,e⟩:=h;have h2:∀ k,∃ o,rdK (bN D f m 0).1 k={ D with ops:=o }:=fun k=>by
  obtain⟨o2,e2⟩:=gZ (bN D f m 0).1 k;exact⟨o2,by rw[e2,e]⟩
 unfold cd
 split
 · exact⟨o,e⟩
 split
 · exact⟨o,e⟩
 split
 · exact⟨o,e⟩
 split
 · exact h2 _
 · exact h2 _
theorem Rest.whole (h:Rest D N)(hf:f+m<=D.many)(hm:5<=m):(cd D f m).2=eg N f:=by
 have hr:bN D f m 0=(eb D,N f,0):=by
  have:=lf (D:=D) (f:=f) (m:=m) (k:=0) h.fit.off hf aS;rw[Nat.add_zero,h.now f aS] at this;exact this
 have ht:cX D f m 0 2=eH (N f) 2:=by
  unfold cX;rw[hr,if_neg ba]
 have hb:∀ k,k<=4->gg D.now f k=iS N f k:=by
  intro k
  induction k with
  | zero=>intro _;rfl
  | succ k ih=>
    intro hk;unfold gg iS;rw[ih aS,h.now (f+(1+k)) aS]
 unfold cd eg;rw[ht];have he:=openV_err (N f) 2;generalize eH (N f) 2=O at *;unfold slotO
 by_cases q1:O.2.2≠0
 · rw[if_pos q1,if_pos q1];rcases he with e | e
   · exact absurd e q1
   · rw[e]
 rw[if_neg q1,if_neg q1]
 by_cases q2:O.2.1.length≠12
 · rw[if_pos q2,if_pos q2]
 rw[if_neg q2,if_neg q2]
 by_cases q3:fx O.2.1<0\/512<fx O.2.1
 · rw[if_pos q3,if_pos q3]
 rw[if_neg q3,if_neg q3,hb _ (by unfold cq;omega)]
 split <;> rfl
structure SlN (N:Secs)(s:SlV3)(n:Nat):Prop where
 num:s.number=(n:Int)
 none_:n=0->s=⟨2,0,[]⟩/\(eg N 1).2.2=53/\(eg N 6).2.2=53
 some_:0<n->(s.now=0\/s.now=1)/\eg N (1+5 * s.now)=(s.load,(n:Int),0)/\((eg N (1+5 * (1 - s.now))).2.2=53\/((eg N (1+5 * (1 - s.now))).2.2=0/\(eg N (1+5 * (1 - s.now))).2.1<(n:Int)))
section
variable {D:aX} {N N':Secs} {s:SlV3} {n:Nat}
theorem SlN.keep (h:SlN N s n)(hout:∀ j:Nat,1<=j->j<11->(j<1+5 * othS s\/1+5 * othS s+5<=j)->N' j=N j)
 (hf:eg N' (1+5 * othS s)=eg N (1+5 * othS s)\/(eg N' (1+5 * othS s)).2.2=53):SlN N' s n:=by
 refine⟨h.num,fun h0=>?_,fun h1=>?_⟩
 · obtain⟨e1,e2,e3⟩:=h.none_ h0;subst e1;have ho:othS ⟨2,0,[]⟩=0:=rfl;rw[ho] at hout hf;refine⟨rfl,?_,?_⟩
   · rcases hf with e | e
     · rw[show eg N' 1=eg N 1 from e];exact e2
     · exact e
   · rw[lX (N:=N) (N':=N') (f:=6) (fun j j1 j2=>hout j aS aS aS)];exact e3
 · obtain⟨e1,e2,e3⟩:=h.some_ h1;have ho:othS s=1 - s.now:=by unfold othS;rcases e1 with e | e <;> rw[e] <;> rfl
   rw[ho] at hout hf;refine⟨e1,?_,?_⟩
   · rw[lX (N:=N) (N':=N') (f:=1+5 * s.now) (fun j j1 j2=>hout j aS aS aS)];exact e2
   · rcases hf with e | e
     · rw[e];exact e3
     · exact .inl e
theorem SlN.congr (h:SlN N s n)(hs:∀ j:Nat,1<=j->j<11->N' j=N j):SlN N' s n :=
 h.keep (fun j j1 j2 _=>hs j j1 j2) (.inl (lX (fun j j1 j2=>hs j aS (by have:=othS_le s;omega))))
theorem SlN.next (h:SlN N s n)(hout:∀ j:Nat,1<=j->j<11->(j<1+5 * othS s\/1+5 * othS s+5<=j)->N' j=N j)
 (hf:eg N' (1+5 * othS s)=(load,((n+1:Nat):Int),0)):SlN N' ⟨othS s,((n+1:Nat):Int),load⟩ (n+1):=by
 refine⟨rfl,fun h0=>absurd h0 aS,fun _=>?_⟩;have ho:othS s=0\/othS s=1:=by unfold othS;split <;> simp
 refine⟨ho,hf,?_⟩;have hsame:eg N' (1+5 * (1 - othS s))=eg N (1+5 * (1 - othS s)):=lX (fun j j1 j2=>hout j aS aS aS)
 show (eg N' (1+5 * (1 - othS s))).2.2=53\/((eg N' (1+5 * (1 - othS s))).2.2=0/\(eg N' (1+5 * (1 - othS s))).2.1<((n+1:Nat):Int))
 rw[hsame];rcases aH n with q | q
 · obtain⟨e1,e2,e3⟩:=h.none_ q;subst e1;exact .inl e3
 · obtain⟨e1,e2,_⟩:=h.some_ q;have e4:1 - othS s=s.now:=by unfold othS;rcases e1 with e | e <;> rw[e] <;> rfl
   rw[e4,e2];exact .inr ⟨rfl,by show (n:Int)<_;omega⟩
theorem SlN.open_ (h:SlN N s n)(hr:Rest D N)(hm:11<=D.many):∃ o,du D 1 5 6 5=({ D with ops:=o },s,0):=by
 obtain⟨o1,d1⟩:=whole_ops (D:=D) (f:=1) (m:=5);obtain⟨o2,d2⟩:=whole_ops (D:={ D with ops:=o1 }) (f:=6) (m:=5);have w1:=hr.whole (f:=1) (m:=5) aS aS;have w2:=(hr.ops o1).whole (f:=6) (m:=5) (by show 6+5<=D.many;omega) aS;refine⟨o2,?_⟩;unfold du;rw[d1,d2,w1,w2];rcases aH n with q | q
 · obtain⟨e1,e2,e3⟩:=h.none_ q;rw[e2,e3,e1]
   rfl
 · obtain⟨e1,e2,e3⟩:=h.some_ q;obtain⟨now,number,load⟩:=s;have hn:=h.num;simp only at hn e1 e2 e3;subst hn;rcases e1 with rfl | rfl
   · simp only[Nat.mul_zero,Nat.sub_zero,Nat.mul_one,Nat.add_zero,Nat.reduceAdd] at e2 e3;rw[e2];rcases e3 with e3 | ⟨e3,e4⟩
     · rw[e3];simp
     · rw[e3];have:(eg N 6).2.1<=(n:Int):=aS;simp[this]
   · simp only[Nat.mul_one,Nat.sub_self,Nat.mul_zero,Nat.add_zero] at e2 e3;rw[show eg N 6=(load,(n:Int),0) from e2];rcases e3 with e3 | ⟨e3,e4⟩
     · rw[e3];simp
     · rw[e3];have:¬ ((n:Int)<=(eg N 1).2.1):=aS;simp[this]
end
def mixP (Q P:Says):Says:=fun s S=>if 1<=s/\s<11 then Q s S else P s S
theorem kC {P:Says}(h:1<=s/\s<11):mixP Q P s=Q s:=by funext S;unfold mixP;rw[if_pos h]
theorem mP {P:Says}(h:¬ (1<=s/\s<11)):mixP Q P s=P s:=by funext S;unfold mixP;rw[if_neg h]
def stA (N:Secs)(f:Nat):Says:=fun s S=>if s=f then S=N f\/bw S 0=0 else S=N s
def stB (N:Secs)(f:Nat):Says:=fun s S=>if s=f then S=br else if f<s/\s<f+5 then True else S=N s
def stC (N:Secs)(f number:Nat)(load:List UInt8):Says:=fun s S=>if s=f then S=bT 2 number (dP load)\/bw S 127=0 else S=laid (ip N f) f load (cq load.length) s
theorem stA_shut (N:Secs)(f:Nat):fG (stA N f f) br:=by
 intro S c hc hS h;unfold stA at h ⊢;rw[if_pos rfl] at h ⊢;have hl:(br.take c).length=c:=by rw[aA,dO];omega
 rcases aH c with q | q
 · subst q;have e:splice S 0 (br.take 0)=S:=by simp[splice]
   rw[e];exact h
 · right
   rw[jv (by rw[hl,hS];omega),if_pos kU,Nat.sub_zero,om aS]
   decide
theorem stB_shut (N:Secs)(f:Nat)(b:List UInt8)(h:f<s/\s<f+5):fG (stB N f s) b:=by
 intro S c hc hS _;unfold stB;rw[if_neg aS,if_pos h]
 trivial
theorem stC_shut (N:Secs)(f number:Nat)(load:List UInt8):fG (stC N f number load f) (bT 2 number (dP load)):=by
 have hS0:=js 2 number (dP load) (by rw[lW];omega);generalize hg:bT 2 number (dP load)=S0 at *;intro S c hc hS h;unfold stC at h ⊢;rw[if_pos rfl] at h ⊢;rw[hg] at h ⊢;have hl:(S0.take c).length=c:=by rw[aA];omega
 by_cases hc8:c=128
 · left
   subst hc8;rw[au aS];exact dV _ _ aS
 · rcases h with e | e
   · left
     subst e;unfold splice;rw[List.take_zero,List.nil_append,aB,hl,List.take_append_drop]
   · right
     rw[jv (by rw[hl,hS];omega),if_neg kU];exact e
section
variable {D:aX} {N:Secs} {P:Says} {f number:Nat} {load:List UInt8}
theorem Pow.fill (hf:1<=f/\f+5<=11)(hQ:∀ s b,f<s/\s<f+5->fG (Q s) b):∀ (k i:Nat) {D:aX},Pow D (laid N f load i) (mixP Q P)->11<=D.many->i+k<=4->D.waits.length+k<1000000 ->
 (eD D f 5 load i k).1.many=D.many/\(((eD D f 5 load i k).2=0/\Pow (eD D f 5 load i k).1 (laid N f load (i+k)) (mixP Q P)/\(D.cut=-1->(eD D f 5 load i k).1.cut=-1)) \/
  ((eD D f 5 load i k).2=50/\(eD D f 5 load i k).1.off=true/\D.cut≠-1/\Safe (eD D f 5 load i k).1 (mixP Q P))):=by
 intro k
 induction k with
 | zero=>intro i D h _ _ _;exact⟨rfl,.inl ⟨rfl,h,fun e=>e⟩⟩
 | succ k ih=>
   intro i D h hm hi hw;obtain⟨a1,a2,a3⟩:=h.awrite (f:=f) (m:=5) (n:=1+i) aS aS (oB load i) aS (by rw[kC aS];exact hQ _ _ aS);rcases a3 with ⟨e,ho,hc⟩ | ⟨e,b1,b2,b3⟩
   · rw[oD e];have hl:(bJ D f 5 ((1+i:Nat):Int) (padL load i)).1.waits.length=D.waits.length+1:=by rw[a2];simp
     have ho2:Pow (bJ D f 5 ((1+i:Nat):Int) (padL load i)).1 (laid N f load (i+1)) (mixP Q P):=by
      refine ho.congr (fun s hs=>?_);unfold putN laid
      by_cases q:s=f+(1+i)
      · rw[if_pos q,if_pos aS,show s - (f+1)=i by omega]
      · rw[if_neg q]
        by_cases q2:f+1<=s/\s<f+1+i
        · rw[if_pos q2,if_pos aS]
        · rw[if_neg q2,if_neg aS]
     obtain⟨c1,c2⟩:=ih (i+1) ho2 (by rw[a1];exact hm) aS aS;rw[show i+1+k=i+(k+1) by omega] at c2;refine⟨c1.trans a1,?_⟩;rcases c2 with ⟨d1,d2,d3⟩ | ⟨d1,d2,d3,d4⟩
     · exact .inl ⟨d1,d2,fun q=>d3 (hc q)⟩
     · exact .inr ⟨d1,d2,fun q=>d3 (hc q),d4⟩
   · rw[oC (by rw[e];simp)];exact⟨a1,.inr ⟨e,b1,b2,b3⟩⟩
theorem Rest.save (h:Rest D N)(hm:11<=D.many)(hf:1<=f/\f+5<=11)(hP:∀ s:Nat,s<D.many->¬ (1<=s/\s<11)->P s (N s))(hn:number<9223372036854775807)(hl:load.length<=512) :
 (ec D f 5 (number:Int) load).1.many=D.many /\
 (((ec D f 5 (number:Int) load).2=0/\Rest (ec D f 5 (number:Int) load).1 (putN (laid (ip N f) f load (cq load.length)) f (bT 2 number (dP load)))/\(D.cut=-1->(ec D f 5 (number:Int) load).1.cut=-1)) \/
 ((ec D f 5 (number:Int) load).2=50/\(ec D f 5 (number:Int) load).1.off=true/\D.cut≠-1 /\
   (Safe (ec D f 5 (number:Int) load).1 (mixP (stA N f) P)\/Safe (ec D f 5 (number:Int) load).1 (mixP (stB N f) P)\/Safe (ec D f 5 (number:Int) load).1 (mixP (stC N f number load) P)))):=by
 have hk:cq load.length<=4:=by unfold cq;omega
 have p0:Pow D N (mixP (stA N f) P):=h.pow (fun s hs=>by
  by_cases q:1<=s/\s<11
  · rw[kC q];unfold stA
    split
    · rename_i e;subst e;exact .inl rfl
    · rfl
  · rw[mP q];exact hP s hs q)
 obtain⟨l1,l2,c1⟩:=p0.awrite (f:=f) (m:=5) (n:=0) aS aS dO (by rw[h.waits];simp) (by rw[kC aS];exact stA_shut N f);rw[show ((0:Nat):Int)=0 from rfl] at l1 l2 c1;unfold ec;rcases c1 with ⟨e1,o1,k1⟩ | ⟨e1,f1,k1,b1⟩;rotate_left 1
 · rw[if_pos i9];exact⟨l1,.inr ⟨e1,f1,k1,.inl b1⟩⟩
 rw[if_neg i9];generalize (bJ D f 5 0 br).1=D1 at *;obtain⟨l3,c2⟩:=o1.flush;rcases c2 with ⟨e2,o2,k2⟩ | ⟨e2,f2,k2,b2⟩;rotate_left 1
 · rw[if_pos (by rw[e2];simp)];exact⟨l3.trans l1,.inr ⟨e2,f2,fun q=>k2 (k1 q),.inl b2⟩⟩
 rw[if_neg (by rw[e2];simp)];generalize (bG D1).1=D2 at *;have hm2:=l3.trans l1;have o2':Rest D2 (laid (ip N f) f load 0):=o2.congr (fun s hs=>by
  unfold putN laid ip;rw[if_neg (c:=f+1<=s/\s<f+1+0) aS,Nat.add_zero])
 have hz:∀ s:Nat,s≠f->(s<=f\/f+5<=s)->∀ k,k<=4->laid (ip N f) f load k s=N s:=fun s q1 q2 k hk=>by
  unfold laid ip;rw[if_neg aS,if_neg q1]
 have hzf:∀ k,laid (ip N f) f load k f=br:=fun k=>by
  unfold laid ip;rw[if_neg aS,if_pos rfl]
 have p2:Pow D2 (laid (ip N f) f load 0) (mixP (stB N f) P):=o2'.pow (fun s hs=>by
  rw[hm2] at hs
  by_cases q:1<=s/\s<11
  · rw[kC q];unfold stB
    split
    · rename_i e;subst e;exact hzf 0
    · split
      · trivial
      · exact hz s aS aS 0 aS
  · rw[mP q,hz s aS aS 0 aS];exact hP s hs q)
 obtain⟨l4,c3⟩:=Pow.fill hf (fun s b q=>stB_shut N f b q) (cq load.length) 0 p2 aS aS (by rw[o2.waits];simp;omega);rw[aB] at c3;unfold dX;rcases c3 with ⟨e3,o3,k3⟩ | ⟨e3,f3,k3,b3⟩;rotate_left 1
 · rw[if_pos (show (if (eD D2 f 5 load 0 (cq load.length)).2≠0 then eD D2 f 5 load 0 (cq load.length) else bG (eD D2 f 5 load 0 (cq load.length)).1).2≠0 by rw[if_pos (by rw[e3];simp),e3];simp),if_pos (by rw[e3];simp)];exact⟨l4.trans hm2,.inr ⟨e3,f3,fun q=>k3 (k2 (k1 q)),.inr (.inl b3)⟩⟩
 have hfv:(if (eD D2 f 5 load 0 (cq load.length)).2≠0 then eD D2 f 5 load 0 (cq load.length) else bG (eD D2 f 5 load 0 (cq load.length)).1)=bG (eD D2 f 5 load 0 (cq load.length)).1:=by rw[if_neg (by rw[e3];simp)]
 rw[hfv];generalize (eD D2 f 5 load 0 (cq load.length)).1=D3 at *;obtain⟨l5,c4⟩:=o3.flush;rcases c4 with ⟨e4,o4,k4⟩ | ⟨e4,f4,k4,b4⟩;rotate_left 1
 · rw[if_pos (by rw[e4];simp)];exact⟨(l5.trans l4).trans hm2,.inr ⟨e4,f4,fun q=>k4 (k3 (k2 (k1 q))),.inr (.inl b4)⟩⟩
 rw[if_neg (by rw[e4];simp)];generalize (bG D3).1=D4 at *;have hm4:=(l5.trans l4).trans hm2;have hmk:fT 2 (number:Int) (dP load)=(bT 2 number (dP load),0):=by
  unfold fT;rw[if_neg aS,if_neg (by rw[lW];omega)];simp
 have hpv:cL D4 f 5 0 2 (number:Int) (dP load)=bJ D4 f 5 0 (bT 2 number (dP load)):=by
  unfold cL;rw[hmk,if_neg ba]
 rw[hpv];have p4:Pow D4 (laid (ip N f) f load (cq load.length)) (mixP (stC N f number load) P):=o4.pow (fun s hs=>by
  rw[hm4] at hs
  by_cases q:1<=s/\s<11
  · rw[kC q];unfold stC
    split
    · rename_i e;subst e;right;rw[hzf];decide
    · rfl
  · rw[mP q,hz s aS aS _ hk];exact hP s hs q)
 obtain⟨l6,l7,c5⟩:=p4.awrite (f:=f) (m:=5) (n:=0) aS aS (js 2 number (dP load) (by rw[lW];omega)) (by rw[o4.waits];simp) (by rw[kC aS];exact stC_shut N f number load);rw[show ((0:Nat):Int)=0 from rfl] at l6 l7 c5;rcases c5 with ⟨e5,o5,k5⟩ | ⟨e5,f5,k5,b5⟩;rotate_left 1
 · rw[if_pos (by rw[e5];simp)];exact⟨l6.trans hm4,.inr ⟨e5,f5,fun q=>k5 (k4 (k3 (k2 (k1 q)))),.inr (.inr b5)⟩⟩
 rw[if_neg (by rw[e5];simp)];generalize (bJ D4 f 5 0 (bT 2 number (dP load))).1=D5 at *;obtain⟨l8,c6⟩:=o5.flush;rcases c6 with ⟨e6,o6,k6⟩ | ⟨e6,f6,k6,b6⟩
 · exact⟨(l8.trans l6).trans hm4,.inl ⟨e6,o6,fun q=>k6 (k5 (k4 (k3 (k2 (k1 q)))))⟩⟩
 · exact⟨(l8.trans l6).trans hm4,.inr ⟨e6,f6,fun q=>k6 (k5 (k4 (k3 (k2 (k1 q))))),.inr (.inr b6)⟩⟩
end
def SlMay (N:Secs)(s:SlV3)(n:Nat)(L:List UInt8):Prop:=SlN N s n\/SlN N ⟨othS s,((n+1:Nat):Int),L⟩ (n+1)
section
variable {D:aX} {N:Secs} {P:Says} {s:SlV3} {n:Nat} {L:List UInt8}
theorem SlN.save (h:SlN N s n)(hr:Rest D N)(hm:11<=D.many)(hP:∀ s:Nat,s<D.many->¬ (1<=s/\s<11)->P s (N s))(hn:n<9223372036854775806)(hL:L.length<=512) :
 (dn D 1 5 6 5 s L).1.many=D.many /\
 (((dn D 1 5 6 5 s L).2.2=0/\(dn D 1 5 6 5 s L).2.1=⟨othS s,((n+1:Nat):Int),L⟩/\(D.cut=-1->(dn D 1 5 6 5 s L).1.cut=-1) /\
   ∃ N',Rest (dn D 1 5 6 5 s L).1 N'/\SlN N' ⟨othS s,((n+1:Nat):Int),L⟩ (n+1)/\∀ j,¬ (1<=j/\j<11)->N' j=N j) \/
 ((dn D 1 5 6 5 s L).2.2=50/\(dn D 1 5 6 5 s L).2.1=s/\(dn D 1 5 6 5 s L).1.off=true/\D.cut≠-1 /\
   ∃ Q:Says,Safe (dn D 1 5 6 5 s L).1 (mixP Q P)/\∀ N':Secs,(∀ j,1<=j->j<11->Q j (N' j))->SlMay N' s n L)):=by
 have hle:=othS_le s;have hf:(if s.now=0 then 6 else 1)=1+5 * othS s:=by unfold othS;split <;> rfl
 have ho:(if s.now=0 then 1 else 0)=othS s:=by unfold othS;rfl
 have hm5:(if s.now=0 then 5 else 5)=5:=by split <;> rfl
 have hnum:=h.num;have e:dn D 1 5 6 5 s L=if (ec D (1+5 * othS s) 5 ((n+1:Nat):Int) L).2≠0 then ((ec D (1+5 * othS s) 5 ((n+1:Nat):Int) L).1,s,(ec D (1+5 * othS s) 5 ((n+1:Nat):Int) L).2) else ((ec D (1+5 * othS s) 5 ((n+1:Nat):Int) L).1,⟨othS s,((n+1:Nat):Int),L⟩,0):=by
  unfold dn;rw[if_neg (by rw[hnum];omega),hf,ho,hm5,hnum,show (n:Int)+1=((n+1:Nat):Int) by omega]
 rw[e];have hk4:cq L.length<=4:=by unfold cq;omega
 have hs:=hr.save (f:=1+5 * othS s) (number:=n+1) (load:=L) hm aS hP aS hL;generalize ec D (1+5 * othS s) 5 ((n+1:Nat):Int) L=R at *;obtain⟨E,z⟩:=R;obtain⟨a1,a2⟩:=hs;simp only at a1 a2 ⊢;have hlaid:∀ (i:Nat),i<cq L.length->laid (ip N (1+5 * othS s)) (1+5 * othS s) L (cq L.length) (1+5 * othS s+(1+i))=padL L i:=fun i hi=>by
  unfold laid;rw[if_pos aS,show 1+5 * othS s+(1+i) - (1+5 * othS s+1)=i by omega]
 have hout:∀ j:Nat,j≠1+5 * othS s->(j<=1+5 * othS s\/1+5 * othS s+5<=j)->laid (ip N (1+5 * othS s)) (1+5 * othS s) L (cq L.length) j=N j:=fun j q1 q2=>by
  unfold laid ip;rw[if_neg aS,if_neg q1]
 rcases a2 with ⟨e1,o1,k1⟩ | ⟨e1,f1,k1,hb⟩
 · rw[if_neg i9];refine⟨a1,.inl ⟨rfl,rfl,k1,_,o1,h.next (fun j j1 j2 hc=>?_) (slotN_of hL aS ?_ (fun i hi=>?_)),fun j hj=>?_⟩⟩
   · unfold putN;rw[if_neg aS];exact hout j aS aS
   · unfold putN;rw[if_pos rfl]
   · unfold putN;rw[if_neg aS];exact hlaid i hi
   · unfold putN;rw[if_neg aS];exact hout j aS aS
 · rw[if_pos i9];refine⟨a1,.inr ⟨e1,rfl,f1,k1,?_⟩⟩;rcases hb with hb | hb | hb
   · refine⟨_,hb,fun N' hN=>.inl (h.keep (fun j j1 j2 hc=>?_) ?_)⟩
     · have:=hN j j1 j2;unfold stA at this
       rwa [if_neg aS] at this
     · have:=hN (1+5 * othS s) aS aS;unfold stA at this;rw[if_pos rfl] at this;rcases this with q | q
       · left
         refine lX (fun j j1 j2=>?_)
         by_cases qj:j=1+5 * othS s
         · rw[qj];exact q
         · have:=hN j aS aS;unfold stA at this
           rwa [if_neg qj] at this
       · right
         exact mO (oE q)
   · refine⟨_,hb,fun N' hN=>.inl (h.keep (fun j j1 j2 hc=>?_) ?_)⟩
     · have:=hN j j1 j2;unfold stB at this
       rwa [if_neg aS,if_neg aS] at this
     · right
       have:=hN (1+5 * othS s) aS aS;unfold stB at this;rw[if_pos rfl] at this;refine mO ?_;rw[this];exact oE aV
   · refine⟨_,hb,fun N' hN=>?_⟩;have hrest:∀ j:Nat,1<=j->j<11->(j<1+5 * othS s\/1+5 * othS s+5<=j)->N' j=N j:=fun j j1 j2 hc=>by
      have:=hN j j1 j2;unfold stC at this;rw[if_neg aS] at this;rw[this];exact hout j aS aS
     have:=hN (1+5 * othS s) aS aS;unfold stC at this;rw[if_pos rfl] at this;rcases this with q | q
     · right
       refine h.next hrest (slotN_of hL aS q (fun i hi=>?_));have:=hN (1+5 * othS s+(1+i)) aS aS;unfold stC at this;rw[if_neg aS] at this;rw[this];exact hlaid i hi
     · left
       exact h.keep hrest (.inr (mO (not_head127 q)))
end
structure KpN (p:PV)(hash:Int)(N:Secs)(s:SlV3)(n:Nat)(last:Int)(is:List Int):Prop where
 sl:SlN N s n
 none_:n=0->last=-1/\is=[]
 some_:0<n->s.load=stBs ⟨last,hash,is⟩/\eY p ⟨last,hash,is⟩=true/\mF ⟨last,hash,is⟩
section
variable {p:PV} {hash:Int} {D:aX} {N N':Secs} {P:Says} {s:SlV3} {n:Nat} {last:Int} {is:List Int}
theorem KpN.congr (h:KpN p hash N s n last is)(hs:∀ j:Nat,1<=j->j<11->N' j=N j):KpN p hash N' s n last is:=⟨h.sl.congr hs,h.none_,h.some_⟩
theorem KpN.open_ (h:KpN p hash N s n last is)(hr:Rest D N)(hm:11<=D.many)(hv:dJ p=true):∃ o,ef D 1 5 6 5 p hash=({ D with ops:=o },kOf hash s n last is,0):=by
 obtain⟨o,e⟩:=h.sl.open_ hr hm;refine⟨o,?_⟩;unfold ef;rw[e,if_neg (by rw[hv];simp),if_neg ba];simp only;rcases aH n with q | q
 · obtain⟨e1,_⟩:=h.sl.none_ q;subst e1 q
   rfl
 · obtain⟨e1,_⟩:=h.sl.some_ q;obtain⟨l1,l2,l3⟩:=h.some_ q;have hl:lj s=(s.load,s.number,true):=by unfold lj;rw[if_neg (by rcases e1 with e | e <;> omega)]
   rw[hl,if_neg ba];simp only;rw[l1,kread_stBs l3 l2,if_neg ba,if_neg ba];unfold kOf;rw[if_neg aS,am q]
theorem KpN.saved (h:KpN p hash N s n last is)(hr:Rest D N)(hm:11<=D.many)(hP:∀ s:Nat,s<D.many->¬ (1<=s/\s<11)->P s (N s))(hn:n<9223372036854775806)(k:KpV)(hk:k.s=s){tick:Int}{cells:List Int}(hsa:mF ⟨tick,hash,cells⟩)(hf:eY p ⟨tick,hash,cells⟩=true) :
 (eM D 1 5 6 5 p hash k tick cells).1.many=D.many /\
 (((eM D 1 5 6 5 p hash k tick cells).2.2=0/\(D.cut=-1->(eM D 1 5 6 5 p hash k tick cells).1.cut=-1) /\
   ∃ N' s',(eM D 1 5 6 5 p hash k tick cells).2.1=kOf hash s' (n+1) tick cells/\Rest (eM D 1 5 6 5 p hash k tick cells).1 N'/\KpN p hash N' s' (n+1) tick cells/\∀ j,¬ (1<=j/\j<11)->N' j=N j) \/
 ((eM D 1 5 6 5 p hash k tick cells).2.2=50/\(eM D 1 5 6 5 p hash k tick cells).1.off=true/\D.cut≠-1 /\
   ∃ Q:Says,Safe (eM D 1 5 6 5 p hash k tick cells).1 (mixP Q P)/\∀ N':Secs,(∀ j,1<=j->j<11->Q j (N' j))->KpN p hash N' s n last is\/∃ s',KpN p hash N' s' (n+1) tick cells)):=by
 subst hk;have hun:eM D 1 5 6 5 p hash k tick cells=if eY p ⟨tick,hash,cells⟩=false then (D,k,41)
  else if (dn D 1 5 6 5 k.s (stBs ⟨tick,hash,cells⟩)).2.2≠0 then ((dn D 1 5 6 5 k.s (stBs ⟨tick,hash,cells⟩)).1,{ k with s:=(dn D 1 5 6 5 k.s (stBs ⟨tick,hash,cells⟩)).2.1 },(dn D 1 5 6 5 k.s (stBs ⟨tick,hash,cells⟩)).2.2)
  else ((dn D 1 5 6 5 k.s (stBs ⟨tick,hash,cells⟩)).1,⟨(dn D 1 5 6 5 k.s (stBs ⟨tick,hash,cells⟩)).2.1,⟨tick,hash,cells⟩,true⟩,0):=rfl
 rw[if_neg (by rw[hf];simp)] at hun;rw[hun];have hnew:∀ N' s',SlN N' s' (n+1)->s'.load=stBs ⟨tick,hash,cells⟩->KpN p hash N' s' (n+1) tick cells:=fun N' s' h1 h2=>⟨h1,fun e=>absurd e aS,fun _=>⟨h2,hf,hsa⟩⟩
 obtain⟨a1,a2⟩:=h.sl.save hr hm hP hn (fits_len hf);rcases a2 with ⟨e1,e2,e3,N',r1,r2,r3⟩ | ⟨e1,e2,e3,e4,Q,r1,r2⟩
 · rw[if_neg i9];refine⟨a1,.inl ⟨rfl,e3,N',_,?_,r1,hnew N' _ r2 rfl,r3⟩⟩
   show (⟨(dn D 1 5 6 5 k.s (stBs ⟨tick,hash,cells⟩)).2.1,⟨tick,hash,cells⟩,true⟩:KpV)=_
   rw[e2];unfold kOf;rw[if_neg aS,am aS]
 · rw[if_pos i9];refine⟨a1,.inr ⟨e1,e3,e4,Q,r1,fun N' hN=>?_⟩⟩;rcases r2 N' hN with q | q
   · exact .inl ⟨q,h.none_,h.some_⟩
   · exact .inr ⟨_,hnew N' _ q rfl⟩
end
def dD (D:aX)(f m:Nat)(kind:Int)(next:Nat)(ts:List Int)(n:Int):aX × List Int × Int :=
 if (fw D f m kind next n).2.2≠0 then ((fw D f m kind next n).1,[],(fw D f m kind next n).2.2)
 else if (eK ts (fw D f m kind next n).2.1).2≠0 then ((fw D f m kind next n).1,[],41)
 else ((fw D f m kind next n).1,(eK ts (fw D f m kind next n).2.1).1,0)
def dM (D:aX)(f m:Nat)(kind:Int)(next:Nat)(ts:List Int):Nat->aX × Int
 | 0=>(D,0)
 | k+1=>if (dM D f m kind next ts k).2≠0 then dM D f m kind next ts k else ((dD (dM D f m kind next ts k).1 f m kind next ts (k:Int)).1,(dD (dM D f m kind next ts k).1 f m kind next ts (k:Int)).2.2)
def bS (D:aX)(f m:Nat)(kind:Int)(ts:List Int):aX × Nat × Int :=
 if db ts=false then (D,0,2)
 else if (bO D f m kind).2.2≠0 then ((bO D f m kind).1,0,(bO D f m kind).2.2)
 else if (dM (bO D f m kind).1 f m kind (bO D f m kind).2.1 ts (bO D f m kind).2.1).2≠0 then ((dM (bO D f m kind).1 f m kind (bO D f m kind).2.1 ts (bO D f m kind).2.1).1,0,(dM (bO D f m kind).1 f m kind (bO D f m kind).2.1 ts (bO D f m kind).2.1).2)
 else ((dM (bO D f m kind).1 f m kind (bO D f m kind).2.1 ts (bO D f m kind).2.1).1,(bO D f m kind).2.1,0)
def cG (D:aX)(f m:Nat)(kind:Int)(next:Nat)(ts l:List Int):aX × Nat × Int × Int :=
 if cB ts l=false then (D,next,0,41) else cP D f m kind next (rowB ts l ts.length)
def dY (D:aX)(f m:Nat)(kind:Int)(next:Nat)(ts l:List Int):aX × Nat × Int × Int :=
 if (cG D f m kind next ts l).2.2.2≠0 then ((cG D f m kind next ts l).1,(cG D f m kind next ts l).2.1,0,(cG D f m kind next ts l).2.2.2)
 else if (bG (cG D f m kind next ts l).1).2≠0 then ((bG (cG D f m kind next ts l).1).1,(cG D f m kind next ts l).2.1,0,(bG (cG D f m kind next ts l).1).2)
 else ((bG (cG D f m kind next ts l).1).1,(cG D f m kind next ts l).2.1,(cG D f m kind next ts l).2.2.1,0)
def fe (D:aX)(f m:Nat)(kind:Int)(next:Nat)(ts:List Int)(n:Int)(l:List Int):aX × Nat × Bool × Int :=
 if n<0\/(next:Int)<n then (D,next,false,2)
 else if cB ts l=false then (D,next,false,41)
 else if n<(next:Int) then (D,next,false,0)
 else if (cP D f m kind next (rowB ts l ts.length)).2.2.2≠0 then ((cP D f m kind next (rowB ts l ts.length)).1,(cP D f m kind next (rowB ts l ts.length)).2.1,false,(cP D f m kind next (rowB ts l ts.length)).2.2.2)
 else ((cP D f m kind next (rowB ts l ts.length)).1,(cP D f m kind next (rowB ts l ts.length)).2.1,true,0)
def eV (l:List Int):Prop:=∀ i,i<l.length->-9223372036854775808<=aZ l i/\aZ l i<=9223372036854775807
theorem jGetV_keeps (D:aX)(f m:Nat)(kind:Int)(next:Nat)(n:Int):∃ o,(fw D f m kind next n).1={ D with ops:=o }:=by
 have hr:∃ o,(bN D f m n).1={ D with ops:=o }:=by
  unfold bN
  split
  · exact⟨D.ops,rfl⟩
  · unfold fd
    split
    · exact⟨D.ops,rfl⟩
    · exact⟨_,rfl⟩
 unfold fw
 split
 · exact⟨D.ops,rfl⟩
 · split
   · exact hr
   · split
     · exact hr
     · exact hr
theorem mQ (D:aX)(f m:Nat)(kind:Int)(next:Nat)(ts:List Int)(n:Int):∃ o,(dD D f m kind next ts n).1={ D with ops:=o }:=by
 have h:=jGetV_keeps D f m kind next n;unfold dD
 split
 · exact h
 · split
   · exact h
   · exact h
theorem p6 (D:aX)(f m:Nat)(kind:Int)(next:Nat)(ts:List Int):∀ k,∃ o,(dM D f m kind next ts k).1={ D with ops:=o }:=by
 intro k
 induction k with
 | zero=>exact⟨D.ops,rfl⟩
 | succ k ih=>
   obtain⟨o,e⟩:=ih;unfold dM
   split
   · exact⟨o,e⟩
   · obtain⟨o2,e2⟩:=mQ (dM D f m kind next ts k).1 f m kind next ts (k:Int);exact⟨o2,by rw[e2,e]⟩
theorem qa {kind:Int}{next:Nat}{k:Nat}(h:(dM D f m kind next ts k).2≠0)(hn:k<=n):dM D f m kind next ts n=dM D f m kind next ts k:=by
 induction n with
 | zero=>rw[show k=0 by omega]
 | succ n ih=>
   by_cases q:k=n+1
   · rw[q]
   · have e:=ih aS
     show (if (dM D f m kind next ts n).2≠0 then _ else _)=_
     rw[e,if_pos h]
structure eN (ts:List Int)(rows:List (List Int)):Prop where
 fits:∀ l ∈ rows,cB ts l=true
 ints:∀ l ∈ rows,eV l
def cI (ts:List Int)(rows:List (List Int)):List (List UInt8):=rows.map (fun l=>rowB ts l ts.length)
theorem fits_right (h:cB ts l=true):db ts=true:=(jP.1 h).1
theorem mR (h:db ts=true)(l:List Int):(rowB ts l ts.length).length<=80:=by
 have h1:=rowB_len10 ts l ts.length;have h2:=(fJ.1 h).2.2;omega
theorem loadsOf_len (h:db ts=true):∀ b ∈ cI ts rows,b.length<=113:=fun b hb=>by
 obtain⟨l,_,e⟩:=List.mem_map.1 hb;rw[<- e];have:=mR h l;omega
theorem oG (h:rows[n]?=some l):(cI ts rows)[n]?=some (rowB ts l ts.length):=by
 unfold cI;rw[List.getElem?_map,h];rfl
section
variable {D:aX} {N:Secs} {f m kind:Nat} {ts:List Int} {rows:List (List Int)}
theorem mS (hoff:D.off=false)(hnow:∀ s:Nat,s<D.many->ch D.now (s:Int)=N s)(hR:eN ts rows)(h:Jrn N f m kind (cI ts rows))(hfm:f+m<=D.many)(k1:1<=kind)(k2:kind<=255)(hm:m<=4096)(hn:rows[n]?=some l) :
 dD D f m (kind:Int) rows.length ts (n:Int)=(eb D,l,0):=by
 have hmem:=List.mem_of_getElem? hn;have hg:=h.get hoff hnow hfm k1 k2 hm (oG hn);rw[show (cI ts rows).length=rows.length by simp[cI]] at hg;unfold dD;rw[hg,readR_rowB (hR.fits l hmem) (hR.ints l hmem)];simp
theorem fall_ok (hoff:D.off=false)(hnow:∀ s:Nat,s<D.many->ch D.now (s:Int)=N s)(hR:eN ts rows)(h:Jrn N f m kind (cI ts rows))(hfm:f+m<=D.many)(k1:1<=kind)(k2:kind<=255)(hm:m<=4096) :
 ∀ k,k<=rows.length->dM D f m (kind:Int) rows.length ts k=(rdK D k,0):=by
 intro k
 induction k with
 | zero=>intro _;rfl
 | succ k ih=>
   intro hk;have e:=ih aS;obtain⟨o,ho⟩:=gZ D k;have hg:=mS (D:=rdK D k) (N:=N) (by rw[ho];exact hoff) (fun s hs=>by rw[ho] at hs ⊢;exact hnow s hs) hR h (by rw[ho];exact hfm) k1 k2 hm (ap (show k<rows.length by omega))
   show (if (dM D f m (kind:Int) rows.length ts k).2≠0 then _ else _)=_
   rw[e,hg];simp
   rfl
end
theorem oH (ts:List Int)(rows:List (List Int))(l:List Int):cI ts (rows ++ [l])=cI ts rows ++ [rowB ts l ts.length]:=by simp[cI]
theorem fN (ts:List Int)(rows:List (List Int)):(cI ts rows).length=rows.length:=by simp[cI]
theorem loadsOf_take (ts:List Int)(rows:List (List Int))(n:Nat):(cI ts rows).take n=cI ts (rows.take n):=by simp[cI,List.map_take]
theorem eN.app (h:eN ts rows)(h1:cB ts l=true)(h2:eV l):eN ts (rows ++ [l]) :=
 ⟨fun x hx=>by rcases List.mem_append.1 hx with q | q;exact h.fits x q;rw[List.mem_singleton.1 q];exact h1,fun x hx=>by rcases List.mem_append.1 hx with q | q;exact h.ints x q;rw[List.mem_singleton.1 q];exact h2⟩
theorem eN.take_ (h:eN ts rows)(n:Nat):eN ts (rows.take n):=⟨fun x hx=>h.fits x (List.mem_of_mem_take hx),fun x hx=>h.ints x (List.mem_of_mem_take hx)⟩
section
variable {D:aX} {N:Secs} {P:Says} {f m kind:Nat} {ts l:List Int} {rows:List (List Int)}
theorem Pow.fput (h:Pow D N P)(hfm:f+m<=D.many)(k1:1<=kind)(k2:kind<=255)(hj:Jrn N f m kind (cI ts rows))(hR:eN ts rows)(hl:eV l)(hw:D.waits.length<1000000)
 (hP:cB ts l=true->rows.length<m->fG (P (f+rows.length)) (bT kind rows.length (rowB ts l ts.length))) :
 (cG D f m (kind:Int) rows.length ts l).1.many=D.many /\
 (((cG D f m (kind:Int) rows.length ts l)=(D,rows.length,0,41)/\cB ts l=false)\/((cG D f m (kind:Int) rows.length ts l)=(D,rows.length,0,52)/\rows.length=m) \/
 ((cG D f m (kind:Int) rows.length ts l).2=(rows.length+1,(rows.length:Int),0)/\Pow (cG D f m (kind:Int) rows.length ts l).1 (putN N (f+rows.length) (bT kind rows.length (rowB ts l ts.length))) P /\
   Jrn (putN N (f+rows.length) (bT kind rows.length (rowB ts l ts.length))) f m kind (cI ts (rows ++ [l]))/\eN ts (rows ++ [l])/\(cG D f m (kind:Int) rows.length ts l).1.waits.length=D.waits.length+1/\(D.cut=-1->(cG D f m (kind:Int) rows.length ts l).1.cut=-1)) \/
 ((cG D f m (kind:Int) rows.length ts l).2=(rows.length,0,50)/\(cG D f m (kind:Int) rows.length ts l).1.off=true/\D.cut≠-1/\cB ts l=true/\rows.length<m/\Safe (cG D f m (kind:Int) rows.length ts l).1 P)):=by
 cases hf:cB ts l with
 | false=>
   have:cG D f m (kind:Int) rows.length ts l=(D,rows.length,0,41):=by unfold cG;rw[if_pos hf]
   rw[this];exact⟨rfl,.inl ⟨rfl,rfl⟩⟩
 | true=>
   have hr:=fits_right hf;have hrl:=mR hr l;have e:cG D f m (kind:Int) rows.length ts l=cP D f m (kind:Int) rows.length (rowB ts l ts.length):=by unfold cG;rw[if_neg (by rw[hf];simp)]
   have hle:=hj.le;rw[fN] at hle;rw[e]
   by_cases hm:rows.length=m
   · have:cP D f m (kind:Int) rows.length (rowB ts l ts.length)=(D,rows.length,0,52):=by
      unfold cP;rw[if_neg aS,if_pos aS]
     rw[this];exact⟨rfl,.inr (.inl ⟨rfl,hm⟩)⟩
   · have hlt:rows.length<m:=aS;obtain⟨a1,a2,a3⟩:=h.jadd hfm k1 k2 hlt (l:=rowB ts l ts.length) aS hw (hP hf hlt);refine⟨a1,?_⟩;rcases a3 with ⟨b1,b2,b3⟩ | ⟨b1,b2,b3,b4⟩
     · have hp:=hj.put (by rw[fN];exact hlt) (l:=rowB ts l ts.length) aS;rw[fN] at hp;exact .inr (.inr (.inl ⟨b1,b2,by rw[oH];exact hp,hR.app hf hl,by rw[a2];simp,b3⟩))
     · exact .inr (.inr (.inr ⟨b1,b2,b3,rfl,hlt,b4⟩))
theorem Rest.fadd (h:Rest D N)(hfm:f+m<=D.many)(k1:1<=kind)(k2:kind<=255)(hj:Jrn N f m kind (cI ts rows))(hR:eN ts rows)(hl:eV l)(hN:∀ s:Nat,s<D.many->P s (N s))
 (hP:cB ts l=true->rows.length<m->fG (P (f+rows.length)) (bT kind rows.length (rowB ts l ts.length))) :
 (dY D f m (kind:Int) rows.length ts l).1.many=D.many /\
 (((dY D f m (kind:Int) rows.length ts l)=(D,rows.length,0,41)/\cB ts l=false)\/((dY D f m (kind:Int) rows.length ts l)=(D,rows.length,0,52)/\rows.length=m) \/
 ((dY D f m (kind:Int) rows.length ts l).2=(rows.length+1,(rows.length:Int),0)/\Rest (dY D f m (kind:Int) rows.length ts l).1 (putN N (f+rows.length) (bT kind rows.length (rowB ts l ts.length))) /\
   Jrn (putN N (f+rows.length) (bT kind rows.length (rowB ts l ts.length))) f m kind (cI ts (rows ++ [l]))/\eN ts (rows ++ [l])/\(D.cut=-1->(dY D f m (kind:Int) rows.length ts l).1.cut=-1)) \/
 ((dY D f m (kind:Int) rows.length ts l).2.2=(0,50)/\(dY D f m (kind:Int) rows.length ts l).1.off=true/\D.cut≠-1/\cB ts l=true/\rows.length<m/\Safe (dY D f m (kind:Int) rows.length ts l).1 P)):=by
 obtain⟨a1,a2⟩:=(h.pow hN).fput hfm k1 k2 hj hR hl (by rw[h.waits];simp) hP;have hun:dY D f m (kind:Int) rows.length ts l=if (cG D f m (kind:Int) rows.length ts l).2.2.2≠0 then ((cG D f m (kind:Int) rows.length ts l).1,(cG D f m (kind:Int) rows.length ts l).2.1,0,(cG D f m (kind:Int) rows.length ts l).2.2.2)
  else if (bG (cG D f m (kind:Int) rows.length ts l).1).2≠0 then ((bG (cG D f m (kind:Int) rows.length ts l).1).1,(cG D f m (kind:Int) rows.length ts l).2.1,0,(bG (cG D f m (kind:Int) rows.length ts l).1).2)
  else ((bG (cG D f m (kind:Int) rows.length ts l).1).1,(cG D f m (kind:Int) rows.length ts l).2.1,(cG D f m (kind:Int) rows.length ts l).2.2.1,0):=rfl
 generalize cG D f m (kind:Int) rows.length ts l=R at *;generalize dY D f m (kind:Int) rows.length ts l=S at *;obtain⟨D1,nx,v,er⟩:=R;simp only at a1 a2 hun;rcases a2 with ⟨q,c1⟩ | ⟨q,c1⟩ | ⟨c1,c2,c3,c4,c5,c6⟩ | ⟨c1,c2,c3,c4,c5,c6⟩
 · injection q with q1 q;injection q with q2 q;injection q with q3 q4;subst q1 q2 q3 q4;rw[if_pos ba] at hun;rw[hun];exact⟨rfl,.inl ⟨rfl,c1⟩⟩
 · injection q with q1 q;injection q with q2 q;injection q with q3 q4;subst q1 q2 q3 q4;rw[if_pos ba] at hun;rw[hun];exact⟨rfl,.inr (.inl ⟨rfl,c1⟩)⟩
 · injection c1 with q1 c1;injection c1 with q2 q3;subst q1 q2 q3;rw[if_neg ba] at hun;obtain⟨d1,d2⟩:=c2.flush;rcases d2 with ⟨e1,e2,e3⟩ | ⟨e1,e2,e3,e4⟩
   · rw[if_neg i9] at hun;rw[hun];exact⟨d1.trans a1,.inr (.inr (.inl ⟨rfl,e2,c3,c4,fun q=>e3 (c6 q)⟩))⟩
   · rw[if_pos i9] at hun;rw[hun];have hlt:rows.length<m:=by
      have:=c3.le;rw[fN,az,aJ] at this;omega
     exact⟨d1.trans a1,.inr (.inr (.inr ⟨by rw[e1],e2,fun q=>e3 (c6 q),c4.fits l ba,hlt,e4⟩))⟩
 · injection c1 with q1 c1;injection c1 with q2 q3;subst q1 q2 q3;rw[if_pos ba] at hun;rw[hun];exact⟨a1,.inr (.inr (.inr ⟨rfl,c2,c3,c4,c5,c6⟩))⟩
theorem Rest.fopen {k:Nat}(h:Rest D N)(hr:db ts=true)(hfm:f+m<=D.many)(k1:1<=kind)(k2:kind<=255)(hm:m<=4096)(hR:eN ts rows)(hk:k<=rows.length)(hle:rows.length<=m)
 (hj:∀ n,n<m->SecJ kind k (cI ts rows) n (N (f+n))) (hN:∀ s:Nat,s<D.many->P s (N s)) (hz:∀ n,k<=n->n<m->fG (P (f+n)) br) :
 (bS D f m (kind:Int) ts).1.many=D.many /\
 ((∃ nx,k<=nx/\nx<=rows.length/\(bS D f m (kind:Int) ts).2=(nx,0)/\Rest (bS D f m (kind:Int) ts).1 (fA N f nx m)/\Jrn (fA N f nx m) f m kind (cI ts (rows.take nx))/\(D.cut=-1->(bS D f m (kind:Int) ts).1.cut=-1)) \/
 ((bS D f m (kind:Int) ts).2=(0,50)/\(bS D f m (kind:Int) ts).1.off=true/\D.cut≠-1/\Safe (bS D f m (kind:Int) ts).1 P)):=by
 obtain⟨nx,f1,f2,f3,f4,f5,f6⟩:=found (N:=N) (f:=f) (all:=cI ts rows) (k:=k) (m:=m) (kind:=kind) (loadsOf_len hr) (by rw[fN];exact hk) (by rw[fN];exact hle) k1 k2 hm hj;rw[fN] at f2;rw[loadsOf_take] at f6;obtain⟨a1,a2⟩:=h.jopen (kind:=(kind:Int)) aS aS hfm hN f3 f4 f5 (fun n q1 q2=>hz n aS q2);have hun:bS D f m (kind:Int) ts=if db ts=false then (D,0,2)
  else if (bO D f m (kind:Int)).2.2≠0 then ((bO D f m (kind:Int)).1,0,(bO D f m (kind:Int)).2.2)
  else if (dM (bO D f m (kind:Int)).1 f m (kind:Int) (bO D f m (kind:Int)).2.1 ts (bO D f m (kind:Int)).2.1).2≠0 then ((dM (bO D f m (kind:Int)).1 f m (kind:Int) (bO D f m (kind:Int)).2.1 ts (bO D f m (kind:Int)).2.1).1,0,(dM (bO D f m (kind:Int)).1 f m (kind:Int) (bO D f m (kind:Int)).2.1 ts (bO D f m (kind:Int)).2.1).2)
  else ((dM (bO D f m (kind:Int)).1 f m (kind:Int) (bO D f m (kind:Int)).2.1 ts (bO D f m (kind:Int)).2.1).1,(bO D f m (kind:Int)).2.1,0):=rfl
 generalize bO D f m (kind:Int)=R at *;generalize bS D f m (kind:Int) ts=S at *;obtain⟨D1,n1,er⟩:=R;simp only at a1 a2 hun;rw[if_neg (by rw[hr];simp)] at hun;rcases a2 with ⟨c1,c2,c3⟩ | ⟨c1,c2,c3,c4⟩
 · injection c1 with q1 q2;subst q1 q2;rw[if_neg ba] at hun;have hlen:(rows.take n1).length=n1:=by rw[aA];omega
   have hall:=fall_ok (D:=D1) (N:=fA N f n1 m) (f:=f) (m:=m) (kind:=kind) (ts:=ts) (rows:=rows.take n1) c2.fit.off c2.now (hR.take_ n1) f6 aS k1 k2 hm n1 aS;rw[hlen] at hall;obtain⟨o,ho⟩:=gZ D1 n1;rw[hall,if_neg ba] at hun;simp only at hun;rw[hun];refine⟨by rw[ho];exact a1,.inl ⟨n1,f1,f2,rfl,?_,f6,fun q=>?_⟩⟩
   · rw[ho];exact c2.ops o
   · rw[ho];exact c3 q
 · injection c1 with q1 q2;subst q1 q2;rw[if_pos ba] at hun;rw[hun];exact⟨a1,.inr ⟨rfl,c2,c3,c4⟩⟩
end
