/- Parts: PlainSlotN. -/
import Derived.Test.YtmeebofhlilcmaaGreatPr21
set_option linter.unusedVariables false
set_option linter.unusedSimpArgs false
set_option maxRecDepth 100000
set_option maxHeartbeats 0
namespace Go.Proofs.YtmeebofhlilcmaaGreat
variable {N N':Secs} {f s:Nat} {load:List UInt8} {Q:Says}
open Go.RowKit
def ir (N:Secs)(f:Nat):Nat->List UInt8
 | 0=>[]
 | k+1=>ir N f k ++ N (f+(1+k))
def slotO (O:Int × List UInt8 × Int)(N:Secs)(f:Nat):List UInt8 × Int × Int :=
 if O.2.2≠0 then ([],0,53)
 else if O.2.1.length≠12 then ([],0,53)
 else if ft O.2.1<0\/512<ft O.2.1 then ([],0,53)
 else if sumL ((ir N f (cj (ft O.2.1).toNat)).take (ft O.2.1).toNat)=O.2.1.drop 8 then ((ir N f (cj (ft O.2.1).toNat)).take (ft O.2.1).toNat,O.1,0)
 else ([],0,53)
def ei (N:Secs)(f:Nat):List UInt8 × Int × Int:=slotO (eh (N f) 2) N f
theorem openV_err (S:List UInt8)(kind:Int):(eh S kind).2.2=0\/(eh S kind).2.2=53:=by
 unfold eh
 split
 · exact .inl rfl
 · exact .inr rfl
theorem bodyN_same (h:∀ j,f<=j->j<f+5->N' j=N j):∀ k,k<=4->ir N' f k=ir N f k:=by
 intro k
 induction k with
 | zero=>intro _;rfl
 | succ k ih=>
   intro hk;unfold ir;rw[ih aS,h (f+(1+k)) aS aS]
theorem kY (h:∀ j,f<=j->j<f+5->N' j=N j):ei N' f=ei N f:=by
 unfold ei;rw[h f aS aS];generalize eh (N f) 2=O;unfold slotO
 by_cases q1:O.2.2≠0
 · rw[if_pos q1,if_pos q1]
 rw[if_neg q1,if_neg q1]
 by_cases q2:O.2.1.length≠12
 · rw[if_pos q2,if_pos q2]
 rw[if_neg q2,if_neg q2]
 by_cases q3:ft O.2.1<0\/512<ft O.2.1
 · rw[if_pos q3,if_pos q3]
 rw[if_neg q3,if_neg q3,bodyN_same h _ (by unfold cj;omega)]
theorem lU (h:eK (N f) 2=false):(ei N f).2.2=53:=by
 unfold ei slotO eh;rw[h]
 rfl
theorem bodyN_pads (hb:∀ i,i<cj load.length->N (f+(1+i))=padL load i):(ir N f (cj load.length)).take load.length=load:=by
 have h2:load.length<=cj load.length * 128:=by unfold cj;omega
 have key:∀ k,k<=cj load.length->ir N f k=(load ++ List.replicate (cj load.length * 128 - load.length) 0).take (k * 128):=by
  intro k
  induction k with
  | zero=>intro _;rfl
  | succ k ih=>
    intro hk;unfold ir;rw[ih aS,hb k aS,padL_of aS,show (k+1) * 128=k * 128+128 by omega,List.take_add]
 have e:(load ++ List.replicate (cj load.length * 128 - load.length) 0).take (cj load.length * 128)=load ++ List.replicate (cj load.length * 128 - load.length) 0:=au (by rw[aw,List.length_replicate];omega);rw[key _ aX,e,List.take_left]
theorem slotN_of {n:Nat}(hl:load.length<=512)(hn:n<9223372036854775808)(h0:N f=bQ 2 n (dL load))(hb:∀ i,i<cj load.length->N (f+(1+i))=padL load i):ei N f=(load,(n:Int),0):=by
 obtain⟨h1,h2,h3⟩:=lN (kind:=2) (n:=n) (load:=dL load) aS aS hn (by rw[kX];omega);have e:(2:Int).toNat=2:=rfl;rw[e] at h1 h2 h3;have ho:eh (N f) 2=((n:Int),dL load,0):=by
  rw[h0];unfold eh;rw[if_pos h1,h2,h3];unfold sg;rw[if_pos hn]
 obtain⟨a1,a2⟩:=headN_of hl;unfold ei;rw[ho];unfold slotO;rw[if_neg aZ,if_neg (by rw[kX];simp)];simp only;rw[a1,if_neg aS,ay,bodyN_pads hb,a2,if_pos rfl]
theorem whole_ops {D:aW}{m:Nat}:∃ o,(cd D f m).1={ D with ops:=o }:=by
 have h:∃ o,(bN D f m 0).1={ D with ops:=o }:=by
  unfold bN eW
  split
  · exact⟨D.ops,rfl⟩
  · split
    · exact⟨D.ops,rfl⟩
    · exact⟨mAdd D.ops 1 1,rfl⟩
 obtain⟨o,e⟩:=h;have h2:∀ k,∃ o,rdK (bN D f m 0).1 k={ D with ops:=o }:=fun k=>by
  obtain⟨o2,e2⟩:=gg (bN D f m 0).1 k;exact⟨o2,by rw[e2,e]⟩
 unfold cd
 split
 · exact⟨o,e⟩
 split
 · exact⟨o,e⟩
 split
 · exact⟨o,e⟩
 split
 · exact h2 _
 · exact h2 _
theorem Rest.whole {D:aW}{m:Nat}(h:Rest D N)(hf:f+m<=D.many)(hm:5<=m):(cd D f m).2=ei N f:=by
 have hr:bN D f m 0=(cw D,N f,0):=by
  have:=jo (D:=D) (f:=f) (m:=m) (k:=0) h.fit.off hf aS;rw[Nat.add_zero,h.now f aS] at this;exact this
 have ht:cL D f m 0 2=eh (N f) 2:=by
  unfold cL;rw[hr,if_neg aZ]
 have hb:∀ k,k<=4->fU D.now f k=ir N f k:=by
  intro k
  induction k with
  | zero=>intro _;rfl
  | succ k ih=>
    intro hk;unfold fU ir;rw[ih aS,h.now (f+(1+k)) aS]
 unfold cd ei;rw[ht];have he:=openV_err (N f) 2;generalize eh (N f) 2=O at *;unfold slotO
 by_cases q1:O.2.2≠0
 · rw[if_pos q1,if_pos q1];rcases he with e | e
   · exact absurd e q1
   · rw[e]
 rw[if_neg q1,if_neg q1]
 by_cases q2:O.2.1.length≠12
 · rw[if_pos q2,if_pos q2]
 rw[if_neg q2,if_neg q2]
 by_cases q3:ft O.2.1<0\/512<ft O.2.1
 · rw[if_pos q3,if_pos q3]
 rw[if_neg q3,if_neg q3,hb _ (by unfold cj;omega)]
 split <;> rfl
structure SlN (N:Secs)(s:SlV3)(n:Nat):Prop where
 num:s.number=(n:Int)
 none_:n=0->s=⟨2,0,[]⟩/\(ei N 1).2.2=53/\(ei N 6).2.2=53
 some_:0<n->(s.now=0\/s.now=1)/\ei N (1+5 * s.now)=(s.load,(n:Int),0)/\((ei N (1+5 * (1 - s.now))).2.2=53\/((ei N (1+5 * (1 - s.now))).2.2=0/\(ei N (1+5 * (1 - s.now))).2.1<(n:Int)))
section
variable {D:aW} {N N':Secs} {s:SlV3} {n:Nat}
theorem SlN.keep (h:SlN N s n)(hout:∀ j:Nat,1<=j->j<11->(j<1+5 * othS s\/1+5 * othS s+5<=j)->N' j=N j)
 (hf:ei N' (1+5 * othS s)=ei N (1+5 * othS s)\/(ei N' (1+5 * othS s)).2.2=53):SlN N' s n:=by
 refine⟨h.num,fun h0=>?_,fun h1=>?_⟩
 · obtain⟨e1,e2,e3⟩:=h.none_ h0;subst e1;have ho:othS ⟨2,0,[]⟩=0:=rfl;rw[ho] at hout hf;refine⟨rfl,?_,?_⟩
   · rcases hf with e | e
     · rw[show ei N' 1=ei N 1 from e];exact e2
     · exact e
   · rw[kY (N:=N) (N':=N') (f:=6) (fun j j1 j2=>hout j aS aS aS)];exact e3
 · obtain⟨e1,e2,e3⟩:=h.some_ h1;have ho:othS s=1 - s.now:=by unfold othS;rcases e1 with e | e <;> rw[e] <;> rfl
   rw[ho] at hout hf;refine⟨e1,?_,?_⟩
   · rw[kY (N:=N) (N':=N') (f:=1+5 * s.now) (fun j j1 j2=>hout j aS aS aS)];exact e2
   · rcases hf with e | e
     · rw[e];exact e3
     · exact .inl e
theorem SlN.congr (h:SlN N s n)(hs:∀ j:Nat,1<=j->j<11->N' j=N j):SlN N' s n :=
 h.keep (fun j j1 j2 _=>hs j j1 j2) (.inl (kY (fun j j1 j2=>hs j aS (by have:=othS_le s;omega))))
theorem SlN.next (h:SlN N s n)(hout:∀ j:Nat,1<=j->j<11->(j<1+5 * othS s\/1+5 * othS s+5<=j)->N' j=N j)
 (hf:ei N' (1+5 * othS s)=(load,((n+1:Nat):Int),0)):SlN N' ⟨othS s,((n+1:Nat):Int),load⟩ (n+1):=by
 refine⟨rfl,fun h0=>absurd h0 aS,fun _=>?_⟩;have ho:othS s=0\/othS s=1:=by unfold othS;split <;> simp
 refine⟨ho,hf,?_⟩;have hsame:ei N' (1+5 * (1 - othS s))=ei N (1+5 * (1 - othS s)):=kY (fun j j1 j2=>hout j aS aS aS)
 show (ei N' (1+5 * (1 - othS s))).2.2=53\/((ei N' (1+5 * (1 - othS s))).2.2=0/\(ei N' (1+5 * (1 - othS s))).2.1<((n+1:Nat):Int))
 rw[hsame];rcases aG n with q | q
 · obtain⟨e1,e2,e3⟩:=h.none_ q;subst e1;exact .inl e3
 · obtain⟨e1,e2,_⟩:=h.some_ q;have e4:1 - othS s=s.now:=by unfold othS;rcases e1 with e | e <;> rw[e] <;> rfl
   rw[e4,e2];exact .inr ⟨rfl,by show (n:Int)<_;omega⟩
theorem SlN.open_ (h:SlN N s n)(hr:Rest D N)(hm:11<=D.many):∃ o,dc D 1 5 6 5=({ D with ops:=o },s,0):=by
 obtain⟨o1,d1⟩:=whole_ops (D:=D) (f:=1) (m:=5);obtain⟨o2,d2⟩:=whole_ops (D:={ D with ops:=o1 }) (f:=6) (m:=5);have w1:=hr.whole (f:=1) (m:=5) aS aS;have w2:=(hr.ops o1).whole (f:=6) (m:=5) (by show 6+5<=D.many;omega) aS;refine⟨o2,?_⟩;unfold dc;rw[d1,d2,w1,w2];rcases aG n with q | q
 · obtain⟨e1,e2,e3⟩:=h.none_ q;rw[e2,e3,e1]
   rfl
 · obtain⟨e1,e2,e3⟩:=h.some_ q;obtain⟨now,number,load⟩:=s;have hn:=h.num;simp only at hn e1 e2 e3;subst hn;rcases e1 with rfl | rfl
   · simp only[Nat.mul_zero,Nat.sub_zero,Nat.mul_one,Nat.add_zero,Nat.reduceAdd] at e2 e3;rw[e2];rcases e3 with e3 | ⟨e3,e4⟩
     · rw[e3];simp
     · rw[e3];have:(ei N 6).2.1<=(n:Int):=aS;simp[this]
   · simp only[Nat.mul_one,Nat.sub_self,Nat.mul_zero,Nat.add_zero] at e2 e3;rw[show ei N 6=(load,(n:Int),0) from e2];rcases e3 with e3 | ⟨e3,e4⟩
     · rw[e3];simp
     · rw[e3];have:¬ ((n:Int)<=(ei N 1).2.1):=aS;simp[this]
end
def mixP (Q P:Says):Says:=fun s S=>if 1<=s/\s<11 then Q s S else P s S
theorem jM {P:Says}(h:1<=s/\s<11):mixP Q P s=Q s:=by funext S;unfold mixP;rw[if_pos h]
theorem lV {P:Says}(h:¬ (1<=s/\s<11)):mixP Q P s=P s:=by funext S;unfold mixP;rw[if_neg h]
def stA (N:Secs)(f:Nat):Says:=fun s S=>if s=f then S=N f\/bw S 0=0 else S=N s
def stB (N:Secs)(f:Nat):Says:=fun s S=>if s=f then S=br else if f<s/\s<f+5 then True else S=N s
def stC (N:Secs)(f number:Nat)(load:List UInt8):Says:=fun s S=>if s=f then S=bQ 2 number (dL load)\/bw S 127=0 else S=laid (gK N f) f load (cj load.length) s
theorem stA_shut (N:Secs)(f:Nat):fB (stA N f f) br:=by
 intro S c hc hS h;unfold stA at h ⊢;rw[if_pos rfl] at h ⊢;have hl:(br.take c).length=c:=by rw[aB,dJ];omega
 rcases aG c with q | q
 · subst q;have e:splice S 0 (br.take 0)=S:=by simp[splice]
   rw[e];exact h
 · right
   rw[iT (by rw[hl,hS];omega),if_pos ka,Nat.sub_zero,nt aS]
   decide
theorem stB_shut (N:Secs)(f:Nat)(b:List UInt8)(h:f<s/\s<f+5):fB (stB N f s) b:=by
 intro S c hc hS _;unfold stB;rw[if_neg aS,if_pos h]
 trivial
theorem stC_shut (N:Secs)(f number:Nat)(load:List UInt8):fB (stC N f number load f) (bQ 2 number (dL load)):=by
 have hS0:=iR 2 number (dL load) (by rw[kX];omega);generalize hg:bQ 2 number (dL load)=S0 at *;intro S c hc hS h;unfold stC at h ⊢;rw[if_pos rfl] at h ⊢;rw[hg] at h ⊢;have hl:(S0.take c).length=c:=by rw[aB];omega
 by_cases hc8:c=128
 · left
   subst hc8;rw[au aS];exact dR _ _ aS
 · rcases h with e | e
   · left
     subst e;unfold splice;rw[List.take_zero,List.nil_append,aC,hl,List.take_append_drop]
   · right
     rw[iT (by rw[hl,hS];omega),if_neg ka];exact e
section
variable {D:aW} {N:Secs} {P:Says} {f number:Nat} {load:List UInt8}
theorem Pow.fill (hf:1<=f/\f+5<=11)(hQ:∀ s b,f<s/\s<f+5->fB (Q s) b):∀ (k i:Nat) {D:aW},Pow D (laid N f load i) (mixP Q P)->11<=D.many->i+k<=4->D.waits.length+k<1000000 ->
 (eB D f 5 load i k).1.many=D.many/\(((eB D f 5 load i k).2=0/\Pow (eB D f 5 load i k).1 (laid N f load (i+k)) (mixP Q P)/\(D.cut=-1->(eB D f 5 load i k).1.cut=-1)) \/
  ((eB D f 5 load i k).2=50/\(eB D f 5 load i k).1.off=true/\D.cut≠-1/\Safe (eB D f 5 load i k).1 (mixP Q P))):=by
 intro k
 induction k with
 | zero=>intro i D h _ _ _;exact⟨rfl,.inl ⟨rfl,h,fun e=>e⟩⟩
 | succ k ih=>
   intro i D h hm hi hw;obtain⟨a1,a2,a3⟩:=h.awrite (f:=f) (m:=5) (n:=1+i) aS aS (nF load i) aS (by rw[jM aS];exact hQ _ _ aS);rcases a3 with ⟨e,ho,hc⟩ | ⟨e,b1,b2,b3⟩
   · rw[nJ e];have hl:(bJ D f 5 ((1+i:Nat):Int) (padL load i)).1.waits.length=D.waits.length+1:=by rw[a2];simp
     have ho2:Pow (bJ D f 5 ((1+i:Nat):Int) (padL load i)).1 (laid N f load (i+1)) (mixP Q P):=by
      refine ho.congr (fun s hs=>?_);unfold putN laid
      by_cases q:s=f+(1+i)
      · rw[if_pos q,if_pos aS,show s - (f+1)=i by omega]
      · rw[if_neg q]
        by_cases q2:f+1<=s/\s<f+1+i
        · rw[if_pos q2,if_pos aS]
        · rw[if_neg q2,if_neg aS]
     obtain⟨c1,c2⟩:=ih (i+1) ho2 (by rw[a1];exact hm) aS aS;rw[show i+1+k=i+(k+1) by omega] at c2;refine⟨c1.trans a1,?_⟩;rcases c2 with ⟨d1,d2,d3⟩ | ⟨d1,d2,d3,d4⟩
     · exact .inl ⟨d1,d2,fun q=>d3 (hc q)⟩
     · exact .inr ⟨d1,d2,fun q=>d3 (hc q),d4⟩
   · rw[nH (by rw[e];simp)];exact⟨a1,.inr ⟨e,b1,b2,b3⟩⟩
theorem Rest.save (h:Rest D N)(hm:11<=D.many)(hf:1<=f/\f+5<=11)(hP:∀ s:Nat,s<D.many->¬ (1<=s/\s<11)->P s (N s))(hn:number<9223372036854775807)(hl:load.length<=512) :
 (ea D f 5 (number:Int) load).1.many=D.many /\
 (((ea D f 5 (number:Int) load).2=0/\Rest (ea D f 5 (number:Int) load).1 (putN (laid (gK N f) f load (cj load.length)) f (bQ 2 number (dL load)))/\(D.cut=-1->(ea D f 5 (number:Int) load).1.cut=-1)) \/
 ((ea D f 5 (number:Int) load).2=50/\(ea D f 5 (number:Int) load).1.off=true/\D.cut≠-1 /\
   (Safe (ea D f 5 (number:Int) load).1 (mixP (stA N f) P)\/Safe (ea D f 5 (number:Int) load).1 (mixP (stB N f) P)\/Safe (ea D f 5 (number:Int) load).1 (mixP (stC N f number load) P)))):=by
 have hk:cj load.length<=4:=by unfold cj;omega
 have p0:Pow D N (mixP (stA N f) P):=h.pow (fun s hs=>by
  by_cases q:1<=s/\s<11
  · rw[jM q];unfold stA
    split
    · rename_i e;subst e;exact .inl rfl
    · rfl
  · rw[lV q];exact hP s hs q)
 obtain⟨l1,l2,c1⟩:=p0.awrite (f:=f) (m:=5) (n:=0) aS aS dJ (by rw[h.waits];simp) (by rw[jM aS];exact stA_shut N f);rw[show ((0:Nat):Int)=0 from rfl] at l1 l2 c1;unfold ea;rcases c1 with ⟨e1,o1,k1⟩ | ⟨e1,f1,k1,b1⟩;rotate_left 1
 · rw[if_pos iB];exact⟨l1,.inr ⟨e1,f1,k1,.inl b1⟩⟩
 rw[if_neg iB];generalize (bJ D f 5 0 br).1=D1 at *;obtain⟨l3,c2⟩:=o1.flush;rcases c2 with ⟨e2,o2,k2⟩ | ⟨e2,f2,k2,b2⟩;rotate_left 1
 · rw[if_pos (by rw[e2];simp)];exact⟨l3.trans l1,.inr ⟨e2,f2,fun q=>k2 (k1 q),.inl b2⟩⟩
 rw[if_neg (by rw[e2];simp)];generalize (bG D1).1=D2 at *;have hm2:=l3.trans l1;have o2':Rest D2 (laid (gK N f) f load 0):=o2.congr (fun s hs=>by
  unfold putN laid gK;rw[if_neg (c:=f+1<=s/\s<f+1+0) aS,Nat.add_zero])
 have hz:∀ s:Nat,s≠f->(s<=f\/f+5<=s)->∀ k,k<=4->laid (gK N f) f load k s=N s:=fun s q1 q2 k hk=>by
  unfold laid gK;rw[if_neg aS,if_neg q1]
 have hzf:∀ k,laid (gK N f) f load k f=br:=fun k=>by
  unfold laid gK;rw[if_neg aS,if_pos rfl]
 have p2:Pow D2 (laid (gK N f) f load 0) (mixP (stB N f) P):=o2'.pow (fun s hs=>by
  rw[hm2] at hs
  by_cases q:1<=s/\s<11
  · rw[jM q];unfold stB
    split
    · rename_i e;subst e;exact hzf 0
    · split
      · trivial
      · exact hz s aS aS 0 aS
  · rw[lV q,hz s aS aS 0 aS];exact hP s hs q)
 obtain⟨l4,c3⟩:=Pow.fill hf (fun s b q=>stB_shut N f b q) (cj load.length) 0 p2 aS aS (by rw[o2.waits];simp;omega);rw[aC] at c3;unfold dW;rcases c3 with ⟨e3,o3,k3⟩ | ⟨e3,f3,k3,b3⟩;rotate_left 1
 · rw[if_pos (show (if (eB D2 f 5 load 0 (cj load.length)).2≠0 then eB D2 f 5 load 0 (cj load.length) else bG (eB D2 f 5 load 0 (cj load.length)).1).2≠0 by rw[if_pos (by rw[e3];simp),e3];simp),if_pos (by rw[e3];simp)];exact⟨l4.trans hm2,.inr ⟨e3,f3,fun q=>k3 (k2 (k1 q)),.inr (.inl b3)⟩⟩
 have hfv:(if (eB D2 f 5 load 0 (cj load.length)).2≠0 then eB D2 f 5 load 0 (cj load.length) else bG (eB D2 f 5 load 0 (cj load.length)).1)=bG (eB D2 f 5 load 0 (cj load.length)).1:=by rw[if_neg (by rw[e3];simp)]
 rw[hfv];generalize (eB D2 f 5 load 0 (cj load.length)).1=D3 at *;obtain⟨l5,c4⟩:=o3.flush;rcases c4 with ⟨e4,o4,k4⟩ | ⟨e4,f4,k4,b4⟩;rotate_left 1
 · rw[if_pos (by rw[e4];simp)];exact⟨(l5.trans l4).trans hm2,.inr ⟨e4,f4,fun q=>k4 (k3 (k2 (k1 q))),.inr (.inl b4)⟩⟩
 rw[if_neg (by rw[e4];simp)];generalize (bG D3).1=D4 at *;have hm4:=(l5.trans l4).trans hm2;have hmk:fA 2 (number:Int) (dL load)=(bQ 2 number (dL load),0):=by
  unfold fA;rw[if_neg aS,if_neg (by rw[kX];omega)];simp
 have hpv:cx D4 f 5 0 2 (number:Int) (dL load)=bJ D4 f 5 0 (bQ 2 number (dL load)):=by
  unfold cx;rw[hmk,if_neg aZ]
 rw[hpv];have p4:Pow D4 (laid (gK N f) f load (cj load.length)) (mixP (stC N f number load) P):=o4.pow (fun s hs=>by
  rw[hm4] at hs
  by_cases q:1<=s/\s<11
  · rw[jM q];unfold stC
    split
    · rename_i e;subst e;right;rw[hzf];decide
    · rfl
  · rw[lV q,hz s aS aS _ hk];exact hP s hs q)
 obtain⟨l6,l7,c5⟩:=p4.awrite (f:=f) (m:=5) (n:=0) aS aS (iR 2 number (dL load) (by rw[kX];omega)) (by rw[o4.waits];simp) (by rw[jM aS];exact stC_shut N f number load);rw[show ((0:Nat):Int)=0 from rfl] at l6 l7 c5;rcases c5 with ⟨e5,o5,k5⟩ | ⟨e5,f5,k5,b5⟩;rotate_left 1
 · rw[if_pos (by rw[e5];simp)];exact⟨l6.trans hm4,.inr ⟨e5,f5,fun q=>k5 (k4 (k3 (k2 (k1 q)))),.inr (.inr b5)⟩⟩
 rw[if_neg (by rw[e5];simp)];generalize (bJ D4 f 5 0 (bQ 2 number (dL load))).1=D5 at *;obtain⟨l8,c6⟩:=o5.flush;rcases c6 with ⟨e6,o6,k6⟩ | ⟨e6,f6,k6,b6⟩
 · exact⟨(l8.trans l6).trans hm4,.inl ⟨e6,o6,fun q=>k6 (k5 (k4 (k3 (k2 (k1 q)))))⟩⟩
 · exact⟨(l8.trans l6).trans hm4,.inr ⟨e6,f6,fun q=>k6 (k5 (k4 (k3 (k2 (k1 q))))),.inr (.inr b6)⟩⟩
end
def SlMay (N:Secs)(s:SlV3)(n:Nat)(L:List UInt8):Prop:=SlN N s n\/SlN N ⟨othS s,((n+1:Nat):Int),L⟩ (n+1)
section
variable {D:aW} {N:Secs} {P:Says} {s:SlV3} {n:Nat} {L:List UInt8}
theorem SlN.save (h:SlN N s n)(hr:Rest D N)(hm:11<=D.many)(hP:∀ s:Nat,s<D.many->¬ (1<=s/\s<11)->P s (N s))(hn:n<9223372036854775806)(hL:L.length<=512) :
 (de D 1 5 6 5 s L).1.many=D.many /\
 (((de D 1 5 6 5 s L).2.2=0/\(de D 1 5 6 5 s L).2.1=⟨othS s,((n+1:Nat):Int),L⟩/\(D.cut=-1->(de D 1 5 6 5 s L).1.cut=-1) /\
   ∃ N',Rest (de D 1 5 6 5 s L).1 N'/\SlN N' ⟨othS s,((n+1:Nat):Int),L⟩ (n+1)/\∀ j,¬ (1<=j/\j<11)->N' j=N j) \/
 ((de D 1 5 6 5 s L).2.2=50/\(de D 1 5 6 5 s L).2.1=s/\(de D 1 5 6 5 s L).1.off=true/\D.cut≠-1 /\
   ∃ Q:Says,Safe (de D 1 5 6 5 s L).1 (mixP Q P)/\∀ N':Secs,(∀ j,1<=j->j<11->Q j (N' j))->SlMay N' s n L)):=by
 have hle:=othS_le s;have hf:(if s.now=0 then 6 else 1)=1+5 * othS s:=by unfold othS;split <;> rfl
 have ho:(if s.now=0 then 1 else 0)=othS s:=by unfold othS;rfl
 have hm5:(if s.now=0 then 5 else 5)=5:=by split <;> rfl
 have hnum:=h.num;have e:de D 1 5 6 5 s L=if (ea D (1+5 * othS s) 5 ((n+1:Nat):Int) L).2≠0 then ((ea D (1+5 * othS s) 5 ((n+1:Nat):Int) L).1,s,(ea D (1+5 * othS s) 5 ((n+1:Nat):Int) L).2) else ((ea D (1+5 * othS s) 5 ((n+1:Nat):Int) L).1,⟨othS s,((n+1:Nat):Int),L⟩,0):=by
  unfold de;rw[if_neg (by rw[hnum];omega),hf,ho,hm5,hnum,show (n:Int)+1=((n+1:Nat):Int) by omega]
 rw[e];have hk4:cj L.length<=4:=by unfold cj;omega
 have hs:=hr.save (f:=1+5 * othS s) (number:=n+1) (load:=L) hm aS hP aS hL;generalize ea D (1+5 * othS s) 5 ((n+1:Nat):Int) L=R at *;obtain⟨E,z⟩:=R;obtain⟨a1,a2⟩:=hs;simp only at a1 a2 ⊢;have hlaid:∀ (i:Nat),i<cj L.length->laid (gK N (1+5 * othS s)) (1+5 * othS s) L (cj L.length) (1+5 * othS s+(1+i))=padL L i:=fun i hi=>by
  unfold laid;rw[if_pos aS,show 1+5 * othS s+(1+i) - (1+5 * othS s+1)=i by omega]
 have hout:∀ j:Nat,j≠1+5 * othS s->(j<=1+5 * othS s\/1+5 * othS s+5<=j)->laid (gK N (1+5 * othS s)) (1+5 * othS s) L (cj L.length) j=N j:=fun j q1 q2=>by
  unfold laid gK;rw[if_neg aS,if_neg q1]
 rcases a2 with ⟨e1,o1,k1⟩ | ⟨e1,f1,k1,hb⟩
 · rw[if_neg iB];refine⟨a1,.inl ⟨rfl,rfl,k1,_,o1,h.next (fun j j1 j2 hc=>?_) (slotN_of hL aS ?_ (fun i hi=>?_)),fun j hj=>?_⟩⟩
   · unfold putN;rw[if_neg aS];exact hout j aS aS
   · unfold putN;rw[if_pos rfl]
   · unfold putN;rw[if_neg aS];exact hlaid i hi
   · unfold putN;rw[if_neg aS];exact hout j aS aS
 · rw[if_pos iB];refine⟨a1,.inr ⟨e1,rfl,f1,k1,?_⟩⟩;rcases hb with hb | hb | hb
   · refine⟨_,hb,fun N' hN=>.inl (h.keep (fun j j1 j2 hc=>?_) ?_)⟩
     · have:=hN j j1 j2;unfold stA at this
       rwa [if_neg aS] at this
     · have:=hN (1+5 * othS s) aS aS;unfold stA at this;rw[if_pos rfl] at this;rcases this with q | q
       · left
         refine kY (fun j j1 j2=>?_)
         by_cases qj:j=1+5 * othS s
         · rw[qj];exact q
         · have:=hN j aS aS;unfold stA at this
           rwa [if_neg qj] at this
       · right
         exact lU (nK q)
   · refine⟨_,hb,fun N' hN=>.inl (h.keep (fun j j1 j2 hc=>?_) ?_)⟩
     · have:=hN j j1 j2;unfold stB at this
       rwa [if_neg aS,if_neg aS] at this
     · right
       have:=hN (1+5 * othS s) aS aS;unfold stB at this;rw[if_pos rfl] at this;refine lU ?_;rw[this];exact nK aU
   · refine⟨_,hb,fun N' hN=>?_⟩;have hrest:∀ j:Nat,1<=j->j<11->(j<1+5 * othS s\/1+5 * othS s+5<=j)->N' j=N j:=fun j j1 j2 hc=>by
      have:=hN j j1 j2;unfold stC at this;rw[if_neg aS] at this;rw[this];exact hout j aS aS
     have:=hN (1+5 * othS s) aS aS;unfold stC at this;rw[if_pos rfl] at this;rcases this with q | q
     · right
       refine h.next hrest (slotN_of hL aS q (fun i hi=>?_));have:=hN (1+5 * othS s+(1+i)) aS aS;unfold stC at this;rw[if_neg aS] at this;rw[this];exact hlaid i hi
     · left
       exact h.keep hrest (.inr (lU (not_head127 q)))
end
structure KpN (p:PV)(hash:Int)(N:Secs)(s:SlV3)(n:Nat)(last:Int)(is:List Int):Prop where
 sl:SlN N s n
 none_:n=0->last=-1/\is=[]
 some_:0<n->s.load=stBs ⟨last,hash,is⟩/\eU p ⟨last,hash,is⟩=true/\lK ⟨last,hash,is⟩
section
variable {p:PV} {hash:Int} {D:aW} {N N':Secs} {P:Says} {s:SlV3} {n:Nat} {last:Int} {is:List Int}
theorem KpN.congr (h:KpN p hash N s n last is)(hs:∀ j:Nat,1<=j->j<11->N' j=N j):KpN p hash N' s n last is:=⟨h.sl.congr hs,h.none_,h.some_⟩
theorem KpN.open_ (h:KpN p hash N s n last is)(hr:Rest D N)(hm:11<=D.many)(hv:dw p=true):∃ o,dE D 1 5 6 5 p hash=({ D with ops:=o },kOf hash s n last is,0):=by
 obtain⟨o,e⟩:=h.sl.open_ hr hm;refine⟨o,?_⟩;unfold dE;rw[e,if_neg (by rw[hv];simp),if_neg aZ];simp only;rcases aG n with q | q
 · obtain⟨e1,_⟩:=h.sl.none_ q;subst e1 q
   rfl
 · obtain⟨e1,_⟩:=h.sl.some_ q;obtain⟨l1,l2,l3⟩:=h.some_ q;have hl:jL s=(s.load,s.number,true):=by unfold jL;rw[if_neg (by rcases e1 with e | e <;> omega)]
   rw[hl,if_neg aZ];simp only;rw[l1,kread_stBs l3 l2,if_neg aZ,if_neg aZ];unfold kOf;rw[if_neg aS,am q]
theorem KpN.saved (h:KpN p hash N s n last is)(hr:Rest D N)(hm:11<=D.many)(hP:∀ s:Nat,s<D.many->¬ (1<=s/\s<11)->P s (N s))(hn:n<9223372036854775806)(k:KpV)(hk:k.s=s){tick:Int}{cells:List Int}(hsa:lK ⟨tick,hash,cells⟩)(hf:eU p ⟨tick,hash,cells⟩=true) :
 (eL D 1 5 6 5 p hash k tick cells).1.many=D.many /\
 (((eL D 1 5 6 5 p hash k tick cells).2.2=0/\(D.cut=-1->(eL D 1 5 6 5 p hash k tick cells).1.cut=-1) /\
   ∃ N' s',(eL D 1 5 6 5 p hash k tick cells).2.1=kOf hash s' (n+1) tick cells/\Rest (eL D 1 5 6 5 p hash k tick cells).1 N'/\KpN p hash N' s' (n+1) tick cells/\∀ j,¬ (1<=j/\j<11)->N' j=N j) \/
 ((eL D 1 5 6 5 p hash k tick cells).2.2=50/\(eL D 1 5 6 5 p hash k tick cells).1.off=true/\D.cut≠-1 /\
   ∃ Q:Says,Safe (eL D 1 5 6 5 p hash k tick cells).1 (mixP Q P)/\∀ N':Secs,(∀ j,1<=j->j<11->Q j (N' j))->KpN p hash N' s n last is\/∃ s',KpN p hash N' s' (n+1) tick cells)):=by
 subst hk;have hun:eL D 1 5 6 5 p hash k tick cells=if eU p ⟨tick,hash,cells⟩=false then (D,k,41)
  else if (de D 1 5 6 5 k.s (stBs ⟨tick,hash,cells⟩)).2.2≠0 then ((de D 1 5 6 5 k.s (stBs ⟨tick,hash,cells⟩)).1,{ k with s:=(de D 1 5 6 5 k.s (stBs ⟨tick,hash,cells⟩)).2.1 },(de D 1 5 6 5 k.s (stBs ⟨tick,hash,cells⟩)).2.2)
  else ((de D 1 5 6 5 k.s (stBs ⟨tick,hash,cells⟩)).1,⟨(de D 1 5 6 5 k.s (stBs ⟨tick,hash,cells⟩)).2.1,⟨tick,hash,cells⟩,true⟩,0):=rfl
 rw[if_neg (by rw[hf];simp)] at hun;rw[hun];have hnew:∀ N' s',SlN N' s' (n+1)->s'.load=stBs ⟨tick,hash,cells⟩->KpN p hash N' s' (n+1) tick cells:=fun N' s' h1 h2=>⟨h1,fun e=>absurd e aS,fun _=>⟨h2,hf,hsa⟩⟩
 obtain⟨a1,a2⟩:=h.sl.save hr hm hP hn (fits_len hf);rcases a2 with ⟨e1,e2,e3,N',r1,r2,r3⟩ | ⟨e1,e2,e3,e4,Q,r1,r2⟩
 · rw[if_neg iB];refine⟨a1,.inl ⟨rfl,e3,N',_,?_,r1,hnew N' _ r2 rfl,r3⟩⟩
   show (⟨(de D 1 5 6 5 k.s (stBs ⟨tick,hash,cells⟩)).2.1,⟨tick,hash,cells⟩,true⟩:KpV)=_
   rw[e2];unfold kOf;rw[if_neg aS,am aS]
 · rw[if_pos iB];refine⟨a1,.inr ⟨e1,e3,e4,Q,r1,fun N' hN=>?_⟩⟩;rcases r2 N' hN with q | q
   · exact .inl ⟨q,h.none_,h.some_⟩
   · exact .inr ⟨_,hnew N' _ q rfl⟩
end
end Go.Proofs.YtmeebofhlilcmaaGreat
