/- Parts. -/
import Derived.Test.YtmeebofhlilcmaaGreatPr12
import Derived.Test.YtmeebofhlilcmaaGreatPr13
set_option linter.unusedVariables false
set_option linter.unusedSimpArgs false
set_option maxRecDepth 100000
set_option maxHeartbeats 0
namespace Go.Proofs.YtmeebofhlilcmaaGreat
variable {n f m nx s:Nat} {kind:Int} {D:aX} {l load:List UInt8}
open Go.RowKit
structure KpV where
 s:SlV3
 last:SV
 has:Bool
def hJ:KpV:=⟨⟨2,0,[]⟩,gz,false⟩
def kV (s:SlV3):List UInt8 × Int × Bool:=if s.now=2 then ([],0,false) else (s.load,s.number,true)
def ec (D:aX)(fl ml fr mr:Nat)(p:PV)(hash:Int):aX × KpV × Int :=
 if dF p=false then (D,hJ,40)
 else if (dq D fl ml fr mr).2.2≠0 then ((dq D fl ml fr mr).1,hJ,(dq D fl ml fr mr).2.2)
 else if (kV (dq D fl ml fr mr).2.1).2.2=false then ((dq D fl ml fr mr).1,⟨(dq D fl ml fr mr).2.1,gz,false⟩,0)
 else if (fI p (kV (dq D fl ml fr mr).2.1).1).2≠0 then ((dq D fl ml fr mr).1,hJ,53)
 else if (fI p (kV (dq D fl ml fr mr).2.1).1).1.hash≠hash then ((dq D fl ml fr mr).1,hJ,42)
 else ((dq D fl ml fr mr).1,⟨(dq D fl ml fr mr).2.1,(fI p (kV (dq D fl ml fr mr).2.1).1).1,true⟩,0)
def eM (D:aX)(fl ml fr mr:Nat)(p:PV)(hash:Int)(k:KpV)(tick:Int)(cells:List Int):aX × KpV × Int :=
 if fd p ⟨tick,hash,cells⟩=false then (D,k,41)
 else if (dj D fl ml fr mr k.s (stBs ⟨tick,hash,cells⟩)).2.2≠0 then ((dj D fl ml fr mr k.s (stBs ⟨tick,hash,cells⟩)).1,{ k with s:=(dj D fl ml fr mr k.s (stBs ⟨tick,hash,cells⟩)).2.1 },(dj D fl ml fr mr k.s (stBs ⟨tick,hash,cells⟩)).2.2)
 else ((dj D fl ml fr mr k.s (stBs ⟨tick,hash,cells⟩)).1,⟨(dj D fl ml fr mr k.s (stBs ⟨tick,hash,cells⟩)).2.1,⟨tick,hash,cells⟩,true⟩,0)
theorem kread_stBs {p:PV}{s:SV}(hs:mc s)(hf:fd p s=true):fI p (stBs s)=(s,0):=by
 obtain⟨h1,_,_,h4,_⟩:=jF.1 hf;unfold fI;rw[if_neg (by rw[h1];simp),stBs_len,if_neg aS,if_neg aS,<- h4,snapOf_stBs hs.tick hs.hash hs.cells,if_pos hf]
theorem fits_len {p:PV}{s:SV}(hf:fd p s=true):(stBs s).length<=512:=by
 obtain⟨h1,_,_,h4,_⟩:=jF.1 hf;have h60:=(dV.1 h1).2.2.2.2.1;rw[stBs_len,h4];omega
def kOf (hash:Int)(s:SlV3)(n:Nat)(last:Int)(is:List Int):KpV:=⟨s,if n=0 then gz else ⟨last,hash,is⟩,decide (0<n)⟩
def fD (Q:List UInt8->Prop)(b:List UInt8):Prop:=∀ (S:List UInt8) (c:Nat),c<=128->S.length=128->Q S->Q (splice S 0 (b.take c))
abbrev Secs:=Nat->List UInt8
variable {N N':Secs}
abbrev Says:=Nat->List UInt8->Prop
variable {P Q:Says}
structure Safe (D:aX)(P:Says):Prop where
 ok:D.Ok
 room:D.room=D.many
 kept:∀ s:Nat,s<D.many->P s (ch D.kept (s:Int))
 shut:∀ p ∈ D.waits,fD (P p.1) p.2
structure Pow (D:aX)(N:Secs)(P:Says):Prop where
 fit:Fit D
 now:∀ s:Nat,s<D.many->ch D.now (s:Int)=N s
 kept:∀ s:Nat,s<D.many->P s (ch D.kept (s:Int))
 shut:∀ p ∈ D.waits,fD (P p.1) p.2
structure Rest (D:aX)(N:Secs):Prop where
 fit:Fit D
 waits:D.waits=[]
 now:∀ s:Nat,s<D.many->ch D.now (s:Int)=N s
def putN (N:Secs)(n:Nat)(b:List UInt8):Secs:=fun s=>if s=n then b else N s
section
variable {D:aX} {N N':Secs} {P P':Says}
theorem Pow.safe (h:Pow D N P):Safe D P:=⟨h.fit.ok,h.fit.room,h.kept,h.shut⟩
theorem Rest.keeps (h:Rest D N):D.kept=D.now:=by rw[h.fit.now,h.waits];rfl
theorem Rest.pow (h:Rest D N)(hP:∀ s:Nat,s<D.many->P s (N s)):Pow D N P :=
 ⟨h.fit,h.now,fun s hs=>by rw[h.keeps,h.now s hs];exact hP s hs,fun p hp=>by rw[h.waits] at hp;cases hp⟩
theorem Rest.of_pow (h:Pow D N P)(hw:D.waits=[]):Rest D N:=⟨h.fit,hw,h.now⟩
theorem Rest.congr (h:Rest D N)(e:∀ s:Nat,s<D.many->N s=N' s):Rest D N':=⟨h.fit,h.waits,fun s hs=>(h.now s hs).trans (e s hs)⟩
theorem Pow.congr (h:Pow D N P)(e:∀ s:Nat,s<D.many->N s=N' s):Pow D N' P:=⟨h.fit,fun s hs=>(h.now s hs).trans (e s hs),h.kept,h.shut⟩
theorem Safe.crash (h:Safe D P)(cs:List UInt8):Rest (fP D cs) (fun s=>ch (fP D cs).now (s:Int))/\(fP D cs).cut=-1/\(fP D cs).many=D.many/\∀ s:Nat,s<D.many->P s (ch (fP D cs).now (s:Int)):=by
 obtain⟨c1,c2,c3,c4⟩:=crash_fit h.ok h.room cs;refine⟨⟨c1.fit,c2,fun _ _=>rfl⟩,rfl,c3,fun s hs=>?_⟩;rw[c4];exact crash_closed h.ok cs P h.kept (fun p hp S c hc hS hP=>h.shut p hp S c hc hS hP) s hs
theorem Rest.ops (h:Rest D N)(o:List Int):Rest { D with ops:=o } N:=⟨h.fit.ops o,h.waits,h.now⟩
theorem Pow.ops (h:Pow D N P)(o:List Int):Pow { D with ops:=o } N P:=⟨h.fit.ops o,h.now,h.kept,h.shut⟩
theorem Rest.cutTo (h:Rest D N)(c:Int)(h0:-1<=c)(h1:c<=9223372036854775807):Rest { D with cut:=c } N:=⟨h.fit.cutTo c h0 h1,h.waits,h.now⟩
theorem Pow.cutTo (h:Pow D N P)(c:Int)(h0:-1<=c)(h1:c<=9223372036854775807):Pow { D with cut:=c } N P:=⟨h.fit.cutTo c h0 h1,h.now,h.kept,h.shut⟩
theorem Pow.write (h:Pow D N P)(hn:n<D.many){b:List UInt8}(hb:b.length=128)(hw:D.waits.length<1000000)(hs:fD (P n) b) :
 (eL D (n:Int) b).1.many=D.many/\(eL D (n:Int) b).1.waits=D.waits ++ [(n,b)] /\
 (((eL D (n:Int) b).2=0/\Pow (eL D (n:Int) b).1 (putN N n b) P/\(D.cut=-1->(eL D (n:Int) b).1.cut=-1)) \/
   ((eL D (n:Int) b).2=50/\(eL D (n:Int) b).1.off=true/\D.cut≠-1/\Safe (eL D (n:Int) b).1 P)):=by
 have hwr:=h.fit.write_in (n:=(n:Int)) aS aS b;have hmem:∀ p ∈ (ey (putD D (n:Int) b) 2).waits,fD (P p.1) p.2:=fun p hp=>by
  rcases List.mem_append.1 (show p ∈ D.waits ++ [((n:Int).toNat,b)] from hp) with q | q
  · exact h.shut p q
  · obtain rfl:p=((n:Int).toNat,b):=by simpa using q
    exact hs
 rw[hwr];refine⟨rfl,rfl,?_⟩
 by_cases hc:D.cut=0
 · right
   rw[if_pos hc];exact⟨rfl,by show (D.cut == 0)=true;rw[hc];rfl,aS,mi (putD_ok h.fit.ok (n:=(n:Int)) aS aS hb aS) 2,h.fit.room,h.kept,hmem⟩
 · left
   rw[if_neg hc];refine⟨rfl,⟨h.fit.put aS aS hb hw hc,fun s hs=>?_,h.kept,hmem⟩,fun e=>by show (if 0<=D.cut then D.cut - 1 else D.cut)=-1;rw[e];rfl⟩;rw[h.fit.put_now aS aS hb hs];unfold putN
   by_cases q:s=n
   · rw[if_pos aS,if_pos q]
   · rw[if_neg aS,if_neg q];exact h.now s hs
theorem Pow.awrite (h:Pow D N P)(hfm:f+m<=D.many)(hn:n<m){b:List UInt8}(hb:b.length=128)(hw:D.waits.length<1000000)(hs:fD (P (f+n)) b) :
 (bK D f m (n:Int) b).1.many=D.many/\(bK D f m (n:Int) b).1.waits=D.waits ++ [(f+n,b)] /\
 (((bK D f m (n:Int) b).2=0/\Pow (bK D f m (n:Int) b).1 (putN N (f+n) b) P/\(D.cut=-1->(bK D f m (n:Int) b).1.cut=-1)) \/
   ((bK D f m (n:Int) b).2=50/\(bK D f m (n:Int) b).1.off=true/\D.cut≠-1/\Safe (bK D f m (n:Int) b).1 P)):=by
 have e:bK D f m (n:Int) b=eL D ((f+n:Nat):Int) b:=by
  unfold bK;rw[if_neg aS,show (f:Int)+n=((f+n:Nat):Int) by omega]
 rw[e];exact h.write aS hb hw hs
theorem Pow.flush (h:Pow D N P) :
 (bH D).1.many=D.many/\(((bH D).2=0/\Rest (bH D).1 N/\(D.cut=-1->(bH D).1.cut=-1)) \/
  ((bH D).2=50/\(bH D).1.off=true/\D.cut≠-1/\Safe (bH D).1 P)):=by
 by_cases hc:D.cut=0
 · rw[h.fit.flush_cut hc];exact⟨rfl,.inr ⟨rfl,by show (D.cut == 0)=true;rw[hc];rfl,aS,mi h.fit.ok 3,h.fit.room,h.kept,h.shut⟩⟩
 · obtain⟨e,f1,f2,f3⟩:=h.fit.flush_ok hc;rw[e];refine⟨rfl,.inl ⟨rfl,⟨f1,rfl,fun s hs=>?_⟩,fun e=>by show (if 0<=D.cut then D.cut - 1 else D.cut)=-1;rw[e];rfl⟩⟩;simp only;rw[f3];exact h.now s hs
end
def fx (N:Secs)(f nx m:Nat):Secs:=fun s=>if f+nx<=s/\s<f+m then bw else N s
def recS (N:Secs)(f:Nat)(kind:Int)(n:Nat):Prop:=recB (N (f+n)) kind n=true
theorem scan_first {now:List UInt8}(hn:nx<=m)(hr:∀ n,n<nx->recN now f kind n)(hno:nx<m->¬ recN now f kind nx):(bZ now f kind m).2.1=nx:=by
 have hs:=scan_is now f kind m;rcases Nat.lt_trichotomy (bZ now f kind m).2.1 nx with q | q | q
 · exfalso
   cases hb:(bZ now f kind m).1 with
   | true=>have:=hs.yes hb;omega
   | false=>exact (hs.no hb).2 (hr _ q)
 · exact q
 · exfalso
   exact hno (by have:=hs.le;omega) (hs.recs nx q)
theorem Rest.jopen (h:Rest D N)(k1:1<=kind)(k2:kind<=255)(hfm:f+m<=D.many)(hP:∀ s:Nat,s<D.many->P s (N s))
 (hn:nx<=m) (hr:∀ n,n<nx->recS N f kind n) (hno:nx<m->¬ recS N f kind nx) (hz:∀ n,nx<=n->n<m->fD (P (f+n)) bw) :
 (bP D f m kind).1.many=D.many/\(((bP D f m kind).2=(nx,0)/\Rest (bP D f m kind).1 (fx N f nx m)/\(D.cut=-1->(bP D f m kind).1.cut=-1)) \/
  ((bP D f m kind).2=(0,50)/\(bP D f m kind).1.off=true/\D.cut≠-1/\Safe (bP D f m kind).1 P)):=by
 have hrN:∀ n,n<m->(recN D.now f kind n ↔ recS N f kind n):=fun n hn=>by unfold recN recS;rw[h.now (f+n) aS]
 have hnx:=scan_first (now:=D.now) (f:=f) (kind:=kind) hn (fun n q=>(hrN n aS).2 (hr n q)) (fun q e=>hno q ((hrN nx q).1 e));obtain⟨r1,r2,r3,r4,r5⟩:=rdK_fit h.fit m;have rc:(rdK D m).cut=D.cut:=by obtain⟨o,e⟩:=gO D m;rw[e]
 have hs:=scan_is D.now f kind m;have hle:=mn D.now f kind m;have hm4:=h.fit.ok.many1;have hun:bP D f m kind=if (eg D f m kind).2≠0 then ((eg D f m kind).1,0,(eg D f m kind).2)
  else if (bZ D.now f kind m).2.2=[] then ((eg D f m kind).1,(bZ D.now f kind m).2.1,0)
  else if (bH (eg D f m kind).1).2≠0 then ((bH (eg D f m kind).1).1,0,(bH (eg D f m kind).1).2)
  else ((bH (eg D f m kind).1).1,(bZ D.now f kind m).2.1,0):=by
  unfold bP;rw[if_neg aS,if_neg (by rw[h.fit.off];simp)]
 unfold eg at hun;have hR:Rest (rdK D m) N:=⟨r1,r3.trans h.waits,fun s hs=>by rw[r4];exact h.now s (by rw[<- r2];exact hs)⟩;have hPw:=hR.pow (fun s hs=>hP s (by rw[<- r2];exact hs));have key:∀ (l:List Int) (E:aX) (M:Secs),Pow E M P->E.many=D.many->(∀ x ∈ l,∃ n:Nat,x=(n:Int)/\nx<=n/\n<m)->E.waits.length+l.length<1000000 ->
  (dL E f m l).1.many=D.many/\(((dL E f m l).2=0/\Pow (dL E f m l).1 (fun s=>if f<=s/\((s:Int) - f) ∈ l then bw else M s) P/\(E.cut=-1->(dL E f m l).1.cut=-1)/\(l=[]->(dL E f m l).1.waits=E.waits)) \/
   ((dL E f m l).2=50/\(dL E f m l).1.off=true/\E.cut≠-1/\Safe (dL E f m l).1 P)):=by
  intro l
  induction l with
  | nil=>intro E M hE he _ _;exact⟨he,.inl ⟨rfl,hE.congr (fun s _=>by rw[if_neg aZ]),fun e=>e,fun _=>rfl⟩⟩
  | cons x l ih=>
    intro E M hE he hx hw;simp only[aF] at hw;obtain⟨n,rfl,hn1,hn2⟩:=hx x (aC ..);obtain⟨a1,a2,a3⟩:=hE.awrite (f:=f) (m:=m) (n:=n) (by rw[he];exact hfm) hn2 dI aS (hz n hn1 hn2);rcases a3 with ⟨b1,b2,b3⟩ | ⟨b1,b2,b3,b4⟩
    · rw[lG b1];obtain⟨c1,c2⟩:=ih (bK E f m (n:Int) bw).1 _ b2 (a1.trans he) (fun y hy=>hx y (aB _ hy)) (by rw[a2];simp;omega);refine⟨c1,?_⟩;rcases c2 with ⟨d1,d2,d3,d4⟩ | ⟨d1,d2,d3,d4⟩
      · refine .inl ⟨d1,d2.congr (fun s _=>?_),fun e=>d3 (b3 e),fun e=>by cases e⟩
        by_cases q:f<=s/\((s:Int) - f) ∈ l
        · rw[if_pos q,if_pos ⟨q.1,aB _ q.2⟩]
        · rw[if_neg q];unfold putN
          by_cases q2:s=f+n
          · rw[if_pos q2,if_pos ⟨aS,by rw[show ((s:Int) - f)=(n:Int) by omega];exact aC ..⟩]
          · rw[if_neg q2,if_neg];rintro ⟨q3,q4⟩;rcases List.mem_cons.1 q4 with q5 | q5
            · omega
            · exact q ⟨q3,q5⟩
      · exact .inr ⟨d1,d2,fun e=>d3 (b3 e),d4⟩
    · rw[lH iQ];exact⟨a1.trans he,.inr ⟨b1,b2,b3,b4⟩⟩
 obtain⟨v1,v2⟩:=key (bZ D.now f kind m).2.2 (rdK D m) N hPw r2 (fun x hx=>by obtain⟨n,e,q1,q2⟩:=hs.dirty x hx;exact⟨n,e,aS,q2⟩) (by rw[hR.waits];simp;omega);generalize hS:bZ D.now f kind m=sc at *;obtain⟨so,sn,dl⟩:=sc;simp only at hun hnx v1 v2 hle;have hdirty:=hs.dirty;have hall:=hs.all;simp only at hdirty hall;subst hnx;have hfin:∀ s:Nat,s<D.many->(if f<=s/\((s:Int) - f) ∈ dl then bw else N s)=fx N f sn m s:=fun s hs=>by
  unfold fx
  by_cases q:f+sn<=s/\s<f+m
  · rw[if_pos q]
    by_cases q2:f<=s/\((s:Int) - f) ∈ dl
    · rw[if_pos q2]
    · rw[if_neg q2];apply Classical.byContradiction;intro hne;refine q2 ⟨aS,?_⟩;have:=hall (s - f) aS aS (by rw[show f+(s - f)=s by omega,h.now s hs];exact hne);rw[show ((s:Int) - f)=((s - f:Nat):Int) by omega];exact this
  · rw[if_neg q,if_neg];rintro ⟨q1,q2⟩;obtain⟨n,e,q3,q4⟩:=hdirty _ q2;omega
 rcases v2 with ⟨d1,d2,d3,d4⟩ | ⟨d1,d2,d3,d4⟩
 · rw[if_neg aS] at hun
   by_cases hd:dl=[]
   · rw[if_pos hd] at hun;rw[hun];exact⟨v1,.inl ⟨rfl,⟨d2.fit,(d4 hd).trans hR.waits,fun s hs=>(d2.now s hs).trans (hfin s (by rw[<- v1];exact hs))⟩,fun e=>d3 (rc.trans e)⟩⟩
   · rw[if_neg hd] at hun;obtain⟨g1,g2⟩:=d2.flush;rcases g2 with ⟨e1,e2,e3⟩ | ⟨e1,e2,e3,e4⟩
     · rw[if_neg aS] at hun;rw[hun];exact⟨g1.trans v1,.inl ⟨rfl,e2.congr (fun s hs=>hfin s (by rw[<- v1,<- g1];exact hs)),fun e=>e3 (d3 (rc.trans e))⟩⟩
     · rw[if_pos aS,e1] at hun;rw[hun];exact⟨g1.trans v1,.inr ⟨rfl,e2,fun e=>e3 (d3 (rc.trans e)),e4⟩⟩
 · rw[if_pos aS,d1] at hun;rw[hun];exact⟨v1,.inr ⟨rfl,d2,fun e=>d3 (rc.trans e),d4⟩⟩
theorem seal_rec {kind:Nat}(k1:1<=kind)(k2:kind<=255)(hl:l.length<=113)(hn:n<9223372036854775808)(h:N (f+n)=bU kind n l):recS N f (kind:Int) n/\fe (N (f+n))=l:=by
 obtain⟨q1,q2,q3⟩:=nO (kind:=(kind:Int)) (n:=n) (load:=l) aS aS hn hl;rw[ax] at q1 q2 q3;unfold recS recB;rw[h];refine⟨?_,q3⟩;rw[q1,q2,Bool.true_and,decide_eq_true_iff];unfold sg;omega
structure Jrn (N:Secs)(f m kind:Nat)(all:List (List UInt8)):Prop where
 le:all.length<=m
 len:∀ l ∈ all,l.length<=113
 recs:∀ (n:Nat) (l:List UInt8),all[n]?=some l->N (f+n)=bU kind n l
 zero:∀ n,all.length<=n->n<m->N (f+n)=bw
def SecA (kind k:Nat)(all:List (List UInt8))(n:Nat)(S:List UInt8):Prop :=
 (∀ l,n<k->all[n]?=some l->S=bU kind n l)/\(k<=n->bx S 127=0\/∃ l,all[n]?=some l/\S=bU kind n l)
def SecJ (kind k:Nat)(all:List (List UInt8))(n:Nat)(S:List UInt8):Prop :=
 (∀ l,n<k->all[n]?=some l->S=bU kind n l)/\(k<=n->bx S 127=0\/bx S 0=0\/∃ l,all[n]?=some l/\S=bU kind n l)
section
variable {kind k n:Nat} {all:List (List UInt8)} {S:List UInt8}
theorem SecA.j (h:SecA kind k all n S):SecJ kind k all n S:=⟨h.1,fun q=>by rcases h.2 q with e | e;exact .inl e;exact .inr (.inr e)⟩
theorem SecJ.less (h:SecJ kind k all n S){k':Nat}(hk:k'<=k)(hka:k<=all.length):SecJ kind k' all n S:=by
 refine⟨fun l q=>h.1 l aS,fun q=>?_⟩;rcases ay n k with q2 | q2
 · exact .inr (.inr ⟨all[n]'aS,ap aS,h.1 _ q2 (ap aS)⟩)
 · exact h.2 q2
theorem SecJ.wiped (hn:k<=n):fD (SecJ kind k all n) bw:=by
 intro S c hc hS h;refine⟨fun l q=>absurd q aS,fun _=>?_⟩;have hl:(bw.take c).length=c:=by rw[aA,dI];omega
 rcases aI c with q | q
 · subst q;have e:splice S 0 (bw.take 0)=S:=by simp[splice]
   rw[e];exact h.2 hn
 · right;left
   rw[jl (by rw[hl,hS];omega),if_pos kL,Nat.sub_zero,nQ aS]
   decide
theorem SecA.sealed (hn:k<=n)(hl:all[n]?=some l)(h113:l.length<=113):fD (SecA kind k all n) (bU kind n l):=by
 intro S c hc hS h;have hsl:=jh kind n l h113;refine⟨fun l q=>absurd q aS,fun _=>?_⟩;have hlc:((bU kind n l).take c).length=c:=by rw[aA];omega
 by_cases q:c=128
 · right
   refine⟨l,hl,?_⟩;rw[au aS,dS _ _ aS]
 · rcases h.2 hn with z | ⟨l',e,z⟩
   · left
     rw[jl aS,if_neg aS];exact z
   · right
     rw[hl] at e;injection e with e;subst e;refine⟨l,hl,?_⟩;rw[z];unfold splice;rw[List.take_zero,hlc,aD]
     show _ ++ _=_
     first
      | rw[List.nil_append,List.take_append_drop]
      | simp
theorem recB_kind {S:List UInt8}(hk:1<=kind)(h:recB S kind n=true):bx S 127≠0/\bx S 0≠0:=by
 unfold recB at h;rw[av] at h;obtain⟨k0,k1,_⟩:=mh h.1;constructor <;> omega
theorem SecJ.rec_ (h:SecJ kind k all n S)(h1:1<=kind)(hk:k<=all.length)(hr:recB S (kind:Int) n=true):∃ l,all[n]?=some l/\S=bU kind n l:=by
 rcases ay n k with q | q
 · exact⟨all[n]'aS,ap aS,h.1 _ q (ap aS)⟩
 · obtain⟨k1,k2⟩:=recB_kind aS hr;rcases h.2 q with e | e | e
   · exact absurd e k1
   · exact absurd e k2
   · exact e
end
section
variable {N:Secs} {f m kind k:Nat} {all:List (List UInt8)}
theorem first_not (R:Nat->Prop)(m:Nat):∃ nx,nx<=m/\(∀ n,n<nx->R n)/\(nx<m->¬ R nx):=by
 induction m with
 | zero=>exact⟨0,Nat.le_refl _,fun n q=>absurd q aS,fun q=>absurd q aS⟩
 | succ m ih=>
   obtain⟨nx,h1,h2,h3⟩:=ih
   by_cases q:nx=m
   · subst q
     by_cases hr:R nx
     · exact⟨nx+1,Nat.le_refl _,fun n q=>by rcases ay n nx with e | e;exact h2 n e;rw[show n=nx by omega];exact hr,fun q=>absurd q aS⟩
     · exact⟨nx,aS,h2,fun _=>hr⟩
   · exact⟨nx,aS,h2,fun _=>h3 aS⟩
theorem Jrn.rec_ (h:Jrn N f m kind all)(k1:1<=kind)(k2:kind<=255)(hm:m<=4096)(hn:all[n]?=some l):recS N f (kind:Int) n/\fe (N (f+n))=l:=by
 have:=h.le;have hlt:=(List.getElem?_eq_some_iff.1 hn).1;exact seal_rec k1 k2 (h.len l (List.mem_of_getElem? hn)) aS (h.recs n l hn)
theorem found (hl:∀ l ∈ all,l.length<=113)(hk:k<=all.length)(ham:all.length<=m)(k1:1<=kind)(k2:kind<=255)(hm:m<=4096)(hj:∀ n,n<m->SecJ kind k all n (N (f+n))) :
 ∃ nx,k<=nx/\nx<=all.length/\nx<=m/\(∀ n,n<nx->recS N f (kind:Int) n)/\(nx<m->¬ recS N f (kind:Int) nx)/\Jrn (fx N f nx m) f m kind (all.take nx):=by
 obtain⟨nx,h1,h2,h3⟩:=first_not (fun n=>recS N f (kind:Int) n) m;have hrec:∀ n,n<nx->∃ l,all[n]?=some l/\N (f+n)=bU kind n l:=fun n q=>(hj n aS).rec_ k1 hk (h2 n q)
 have hle:nx<=all.length:=by
  rcases aI nx with q | q
  · omega
  · obtain⟨l,e,_⟩:=hrec (nx - 1) aS;have:=(List.getElem?_eq_some_iff.1 e).1;omega
 have hge:k<=nx:=by
  apply Classical.byContradiction;intro hlt;have e:all[nx]?=some (all[nx]'aS):=ap aS;exact h3 aS (seal_rec k1 k2 (hl _ (List.getElem_mem _)) aS ((hj nx aS).1 _ aS e)).1
 refine⟨nx,hge,hle,h1,h2,h3,by rw[aA];omega,fun l hm=>hl l (List.mem_of_mem_take hm),fun n l e=>?_,fun n q1 q2=>?_⟩
 · rw[aL] at e
   split at e
   · rename_i q;unfold fx;rw[if_neg aS];obtain⟨l',e1,e2⟩:=hrec n q;rw[e] at e1;injection e1 with e1;subst e1;exact e2
   · cases e
 · rw[aA] at q1;unfold fx;rw[if_pos aS]
theorem Jrn.secA (h:Jrn N f m kind all){more:List (List UInt8)}(hn:n<m):SecA kind all.length (all ++ more) n (N (f+n)):=by
 refine⟨fun l q e=>?_,fun q=>.inl ?_⟩
 · rw[aR q] at e;exact h.recs n l e
 · rw[h.zero n q hn];decide
theorem Pow.jadd (h:Pow D N P)(hfm:f+m<=D.many)(k1:1<=kind)(k2:kind<=255)(hn:k<m)(hl:l.length<=113)(hw:D.waits.length<1000000)(hs:fD (P (f+k)) (bU kind k l)) :
 (cO D f m (kind:Int) k l).1.many=D.many/\(cO D f m (kind:Int) k l).1.waits=D.waits ++ [(f+k,bU kind k l)] /\
 (((cO D f m (kind:Int) k l).2=(k+1,(k:Int),0)/\Pow (cO D f m (kind:Int) k l).1 (putN N (f+k) (bU kind k l)) P/\(D.cut=-1->(cO D f m (kind:Int) k l).1.cut=-1)) \/
   ((cO D f m (kind:Int) k l).2=(k,0,50)/\(cO D f m (kind:Int) k l).1.off=true/\D.cut≠-1/\Safe (cO D f m (kind:Int) k l).1 P)):=by
 have hm4:=h.fit.ok.many1;have hmk:fO (kind:Int) (k:Int) l=(bU kind k l,0):=by
  unfold fO;rw[if_neg aS,if_neg aS];simp
 obtain⟨a1,a2,a3⟩:=h.awrite hfm hn (jh kind k l hl) hw hs;have hput:cI D f m (k:Int) (kind:Int) (k:Int) l=bK D f m (k:Int) (bU kind k l):=by
  unfold cI;rw[hmk,if_neg aZ]
 unfold cO;rw[if_neg aS,if_neg aS,hput];rcases a3 with ⟨b1,b2,b3⟩ | ⟨b1,b2,b3,b4⟩
 · rw[if_neg iQ];exact⟨a1,a2,.inl ⟨rfl,b2,b3⟩⟩
 · rw[if_pos iQ];exact⟨a1,a2,.inr ⟨by rw[b1],b2,b3,b4⟩⟩
theorem Jrn.put (h:Jrn N f m kind all)(hlt:all.length<m)(hl:l.length<=113):Jrn (putN N (f+all.length) (bU kind all.length l)) f m kind (all ++ [l]):=by
 refine⟨by rw[aw,aJ];omega,fun l' hm=>?_,fun n l' e=>?_,fun n q1 q2=>?_⟩
 · rcases List.mem_append.1 hm with q | q
   · exact h.len l' q
   · rw[List.mem_singleton.1 q];exact hl
 · unfold putN;rcases ay n all.length with q | q
   · rw[if_neg aS];rw[aR q] at e;exact h.recs n l' e
   · rw[aM q] at e;have hn:n - all.length=0:=by
      apply Classical.byContradiction;intro hne;rw[aK cR] at e
      cases e
     rw[hn] at e;injection e with e;have hnn:n=all.length:=aS;subst hnn;rw[if_pos rfl,<- e]
 · rw[aw,aJ] at q1;unfold putN;rw[if_neg aS];exact h.zero n aS q2
theorem Jrn.get (hoff:D.off=false)(hnow:∀ s:Nat,s<D.many->ch D.now (s:Int)=N s)(h:Jrn N f m kind all)(hfm:f+m<=D.many)(k1:1<=kind)(k2:kind<=255)(hm:m<=4096)(hn:all[n]?=some l) :
 eX D f m (kind:Int) all.length (n:Int)=(dZ D,l,0):=by
 have hlt:=(List.getElem?_eq_some_iff.1 hn).1;obtain⟨r1,r2⟩:=h.rec_ k1 k2 hm hn;have hle:=h.le;have hsec:=hnow (f+n) aS;have:=get_fit (f:=f) (m:=m) (nx:=all.length) (n:=n) (kind:=(kind:Int)) hoff hfm hle hlt (by unfold recN;rw[hsec];exact r1);rw[this,hsec,r2]
theorem Jrn.congr (h:Jrn N f m kind all)(e:∀ n,n<m->N' (f+n)=N (f+n)):Jrn N' f m kind all:=by
 have hle:=h.le;exact⟨h.le,h.len,fun n l q=>by rw[e n (by have:=(List.getElem?_eq_some_iff.1 q).1;omega)];exact h.recs n l q,fun n q1 q2=>by rw[e n q2];exact h.zero n q1 q2⟩
end
def iH (N:Secs)(f:Nat):Nat->List UInt8
 | 0=>[]
 | k+1=>iH N f k ++ N (f+(1+k))
def slotO (O:Int × List UInt8 × Int)(N:Secs)(f:Nat):List UInt8 × Int × Int :=
 if O.2.2≠0 then ([],0,53)
 else if O.2.1.length≠12 then ([],0,53)
 else if fw O.2.1<0\/512<fw O.2.1 then ([],0,53)
 else if sumL ((iH N f (cu (fw O.2.1).toNat)).take (fw O.2.1).toNat)=O.2.1.drop 8 then ((iH N f (cu (fw O.2.1).toNat)).take (fw O.2.1).toNat,O.1,0)
 else ([],0,53)
def ed (N:Secs)(f:Nat):List UInt8 × Int × Int:=slotO (eH (N f) 2) N f
theorem openV_err (S:List UInt8)(kind:Int):(eH S kind).2.2=0\/(eH S kind).2.2=53:=by
 unfold eH
 split
 · exact .inl rfl
 · exact .inr rfl
theorem bodyN_same (h:∀ j,f<=j->j<f+5->N' j=N j):∀ k,k<=4->iH N' f k=iH N f k:=by
 intro k
 induction k with
 | zero=>intro _;rfl
 | succ k ih=>
   intro hk;unfold iH;rw[ih aS,h (f+(1+k)) aS aS]
theorem lK (h:∀ j,f<=j->j<f+5->N' j=N j):ed N' f=ed N f:=by
 unfold ed;rw[h f aS aS];generalize eH (N f) 2=O;unfold slotO
 by_cases q1:O.2.2≠0
 · rw[if_pos q1,if_pos q1]
 rw[if_neg q1,if_neg q1]
 by_cases q2:O.2.1.length≠12
 · rw[if_pos q2,if_pos q2]
 rw[if_neg q2,if_neg q2]
 by_cases q3:fw O.2.1<0\/512<fw O.2.1
 · rw[if_pos q3,if_pos q3]
 rw[if_neg q3,if_neg q3,bodyN_same h _ (by unfold cu;omega)]
theorem mq (h:eV (N f) 2=false):(ed N f).2.2=53:=by
 unfold ed slotO eH;rw[h]
 rfl
theorem bodyN_pads (hb:∀ i,i<cu load.length->N (f+(1+i))=padL load i):(iH N f (cu load.length)).take load.length=load:=by
 have h2:load.length<=cu load.length * 128:=by unfold cu;omega
 have key:∀ k,k<=cu load.length->iH N f k=(load ++ List.replicate (cu load.length * 128 - load.length) 0).take (k * 128):=by
  intro k
  induction k with
  | zero=>intro _;rfl
  | succ k ih=>
    intro hk;unfold iH;rw[ih aS,hb k aS,padL_of aS,show (k+1) * 128=k * 128+128 by omega,List.take_add]
 have e:(load ++ List.replicate (cu load.length * 128 - load.length) 0).take (cu load.length * 128)=load ++ List.replicate (cu load.length * 128 - load.length) 0:=au (by rw[aw,List.length_replicate];omega);rw[key _ aW,e,List.take_left]
theorem slotN_of (hl:load.length<=512)(hn:n<9223372036854775808)(h0:N f=bU 2 n (dJ load))(hb:∀ i,i<cu load.length->N (f+(1+i))=padL load i):ed N f=(load,(n:Int),0):=by
 obtain⟨h1,h2,h3⟩:=nO (kind:=2) (n:=n) (load:=dJ load) aS aS hn (by rw[lJ];omega);have e:(2:Int).toNat=2:=rfl;rw[e] at h1 h2 h3;have ho:eH (N f) 2=((n:Int),dJ load,0):=by
  rw[h0];unfold eH;rw[if_pos h1,h2,h3];unfold sg;rw[if_pos hn]
 obtain⟨a1,a2⟩:=headN_of hl;unfold ed;rw[ho];unfold slotO;rw[if_neg aZ,if_neg (by rw[lJ];simp)];simp only;rw[a1,if_neg aS,ax,bodyN_pads hb,a2,if_pos rfl]
theorem whole_ops :∃ o,(cd D f m).1={ D with ops:=o }:=by
 have h:∃ o,(bN D f m 0).1={ D with ops:=o }:=by
  unfold bN eW
  split
  · exact⟨D.ops,rfl⟩
  · split
    · exact⟨D.ops,rfl⟩
    · exact⟨mAdd D.ops 1 1,rfl⟩
 obtain⟨o,e⟩:=h;have h2:∀ k,∃ o,rdK (bN D f m 0).1 k={ D with ops:=o }:=fun k=>by
  obtain⟨o2,e2⟩:=gO (bN D f m 0).1 k;exact⟨o2,by rw[e2,e]⟩
 unfold cd
 split
 · exact⟨o,e⟩
 split
 · exact⟨o,e⟩
 split
 · exact⟨o,e⟩
 split
 · exact h2 _
 · exact h2 _
theorem Rest.whole (h:Rest D N)(hf:f+m<=D.many)(hm:5<=m):(cd D f m).2=ed N f:=by
 have hr:bN D f m 0=(dZ D,N f,0):=by
  have:=kU (D:=D) (f:=f) (m:=m) (k:=0) h.fit.off hf aS;rw[Nat.add_zero,h.now f aS] at this;exact this
 have ht:cP D f m 0 2=eH (N f) 2:=by
  unfold cP;rw[hr,if_neg aZ]
 have hb:∀ k,k<=4->fW D.now f k=iH N f k:=by
  intro k
  induction k with
  | zero=>intro _;rfl
  | succ k ih=>
    intro hk;unfold fW iH;rw[ih aS,h.now (f+(1+k)) aS]
 unfold cd ed;rw[ht];have he:=openV_err (N f) 2;generalize eH (N f) 2=O at *;unfold slotO
 by_cases q1:O.2.2≠0
 · rw[if_pos q1,if_pos q1];rcases he with e | e
   · exact absurd e q1
   · rw[e]
 rw[if_neg q1,if_neg q1]
 by_cases q2:O.2.1.length≠12
 · rw[if_pos q2,if_pos q2]
 rw[if_neg q2,if_neg q2]
 by_cases q3:fw O.2.1<0\/512<fw O.2.1
 · rw[if_pos q3,if_pos q3]
 rw[if_neg q3,if_neg q3,hb _ (by unfold cu;omega)]
 split <;> rfl
structure SlN (N:Secs)(s:SlV3)(n:Nat):Prop where
 num:s.number=(n:Int)
 none_:n=0->s=⟨2,0,[]⟩/\(ed N 1).2.2=53/\(ed N 6).2.2=53
 some_:0<n->(s.now=0\/s.now=1)/\ed N (1+5 * s.now)=(s.load,(n:Int),0)/\((ed N (1+5 * (1 - s.now))).2.2=53\/((ed N (1+5 * (1 - s.now))).2.2=0/\(ed N (1+5 * (1 - s.now))).2.1<(n:Int)))
section
variable {D:aX} {N N':Secs} {s:SlV3} {n:Nat}
theorem SlN.keep (h:SlN N s n)(hout:∀ j:Nat,1<=j->j<11->(j<1+5 * othS s\/1+5 * othS s+5<=j)->N' j=N j)
 (hf:ed N' (1+5 * othS s)=ed N (1+5 * othS s)\/(ed N' (1+5 * othS s)).2.2=53):SlN N' s n:=by
 refine⟨h.num,fun h0=>?_,fun h1=>?_⟩
 · obtain⟨e1,e2,e3⟩:=h.none_ h0;subst e1;have ho:othS ⟨2,0,[]⟩=0:=rfl;rw[ho] at hout hf;refine⟨rfl,?_,?_⟩
   · rcases hf with e | e
     · rw[show ed N' 1=ed N 1 from e];exact e2
     · exact e
   · rw[lK (N:=N) (N':=N') (f:=6) (fun j j1 j2=>hout j aS aS aS)];exact e3
 · obtain⟨e1,e2,e3⟩:=h.some_ h1;have ho:othS s=1 - s.now:=by unfold othS;rcases e1 with e | e <;> rw[e] <;> rfl
   rw[ho] at hout hf;refine⟨e1,?_,?_⟩
   · rw[lK (N:=N) (N':=N') (f:=1+5 * s.now) (fun j j1 j2=>hout j aS aS aS)];exact e2
   · rcases hf with e | e
     · rw[e];exact e3
     · exact .inl e
theorem SlN.congr (h:SlN N s n)(hs:∀ j:Nat,1<=j->j<11->N' j=N j):SlN N' s n :=
 h.keep (fun j j1 j2 _=>hs j j1 j2) (.inl (lK (fun j j1 j2=>hs j aS (by have:=othS_le s;omega))))
theorem SlN.next (h:SlN N s n)(hout:∀ j:Nat,1<=j->j<11->(j<1+5 * othS s\/1+5 * othS s+5<=j)->N' j=N j)
 (hf:ed N' (1+5 * othS s)=(load,((n+1:Nat):Int),0)):SlN N' ⟨othS s,((n+1:Nat):Int),load⟩ (n+1):=by
 refine⟨rfl,fun h0=>absurd h0 aS,fun _=>?_⟩;have ho:othS s=0\/othS s=1:=by unfold othS;split <;> simp
 refine⟨ho,hf,?_⟩;have hsame:ed N' (1+5 * (1 - othS s))=ed N (1+5 * (1 - othS s)):=lK (fun j j1 j2=>hout j aS aS aS)
 show (ed N' (1+5 * (1 - othS s))).2.2=53\/((ed N' (1+5 * (1 - othS s))).2.2=0/\(ed N' (1+5 * (1 - othS s))).2.1<((n+1:Nat):Int))
 rw[hsame];rcases aI n with q | q
 · obtain⟨e1,e2,e3⟩:=h.none_ q;subst e1;exact .inl e3
 · obtain⟨e1,e2,_⟩:=h.some_ q;have e4:1 - othS s=s.now:=by unfold othS;rcases e1 with e | e <;> rw[e] <;> rfl
   rw[e4,e2];exact .inr ⟨rfl,by show (n:Int)<_;omega⟩
theorem SlN.open_ (h:SlN N s n)(hr:Rest D N)(hm:11<=D.many):∃ o,dq D 1 5 6 5=({ D with ops:=o },s,0):=by
 obtain⟨o1,d1⟩:=whole_ops (D:=D) (f:=1) (m:=5);obtain⟨o2,d2⟩:=whole_ops (D:={ D with ops:=o1 }) (f:=6) (m:=5);have w1:=hr.whole (f:=1) (m:=5) aS aS;have w2:=(hr.ops o1).whole (f:=6) (m:=5) (by show 6+5<=D.many;omega) aS;refine⟨o2,?_⟩;unfold dq;rw[d1,d2,w1,w2];rcases aI n with q | q
 · obtain⟨e1,e2,e3⟩:=h.none_ q;rw[e2,e3,e1]
   rfl
 · obtain⟨e1,e2,e3⟩:=h.some_ q;obtain⟨now,number,load⟩:=s;have hn:=h.num;simp only at hn e1 e2 e3;subst hn;rcases e1 with rfl | rfl
   · simp only[Nat.mul_zero,Nat.sub_zero,Nat.mul_one,Nat.add_zero,Nat.reduceAdd] at e2 e3;rw[e2];rcases e3 with e3 | ⟨e3,e4⟩
     · rw[e3];simp
     · rw[e3];have:(ed N 6).2.1<=(n:Int):=aS;simp[this]
   · simp only[Nat.mul_one,Nat.sub_self,Nat.mul_zero,Nat.add_zero] at e2 e3;rw[show ed N 6=(load,(n:Int),0) from e2];rcases e3 with e3 | ⟨e3,e4⟩
     · rw[e3];simp
     · rw[e3];have:¬ ((n:Int)<=(ed N 1).2.1):=aS;simp[this]
end
def mixP (Q P:Says):Says:=fun s S=>if 1<=s/\s<11 then Q s S else P s S
theorem kg (h:1<=s/\s<11):mixP Q P s=Q s:=by funext S;unfold mixP;rw[if_pos h]
theorem ms (h:¬ (1<=s/\s<11)):mixP Q P s=P s:=by funext S;unfold mixP;rw[if_neg h]
def stA (N:Secs)(f:Nat):Says:=fun s S=>if s=f then S=N f\/bx S 0=0 else S=N s
def stB (N:Secs)(f:Nat):Says:=fun s S=>if s=f then S=bw else if f<s/\s<f+5 then True else S=N s
def stC (N:Secs)(f number:Nat)(load:List UInt8):Says:=fun s S=>if s=f then S=bU 2 number (dJ load)\/bx S 127=0 else S=laid (gZ N f) f load (cu load.length) s
theorem stA_shut (N:Secs)(f:Nat):fD (stA N f f) bw:=by
 intro S c hc hS h;unfold stA at h ⊢;rw[if_pos rfl] at h ⊢;have hl:(bw.take c).length=c:=by rw[aA,dI];omega
 rcases aI c with q | q
 · subst q;have e:splice S 0 (bw.take 0)=S:=by simp[splice]
   rw[e];exact h
 · right
   rw[jl (by rw[hl,hS];omega),if_pos kL,Nat.sub_zero,nQ aS]
   decide
theorem stB_shut (N:Secs)(f:Nat)(b:List UInt8)(h:f<s/\s<f+5):fD (stB N f s) b:=by
 intro S c hc hS _;unfold stB;rw[if_neg aS,if_pos h]
 trivial
theorem stC_shut (N:Secs)(f number:Nat)(load:List UInt8):fD (stC N f number load f) (bU 2 number (dJ load)):=by
 have hS0:=jh 2 number (dJ load) (by rw[lJ];omega);generalize hg:bU 2 number (dJ load)=S0 at *;intro S c hc hS h;unfold stC at h ⊢;rw[if_pos rfl] at h ⊢;rw[hg] at h ⊢;have hl:(S0.take c).length=c:=by rw[aA];omega
 by_cases hc8:c=128
 · left
   subst hc8;rw[au aS];exact dS _ _ aS
 · rcases h with e | e
   · left
     subst e;unfold splice;rw[List.take_zero,List.nil_append,aD,hl,List.take_append_drop]
   · right
     rw[jl (by rw[hl,hS];omega),if_neg kL];exact e
section
variable {D:aX} {N:Secs} {P:Says} {f number:Nat} {load:List UInt8}
theorem Pow.fill (hf:1<=f/\f+5<=11)(hQ:∀ s b,f<s/\s<f+5->fD (Q s) b):∀ (k i:Nat) {D:aX},Pow D (laid N f load i) (mixP Q P)->11<=D.many->i+k<=4->D.waits.length+k<1000000 ->
 (eC D f 5 load i k).1.many=D.many/\(((eC D f 5 load i k).2=0/\Pow (eC D f 5 load i k).1 (laid N f load (i+k)) (mixP Q P)/\(D.cut=-1->(eC D f 5 load i k).1.cut=-1)) \/
  ((eC D f 5 load i k).2=50/\(eC D f 5 load i k).1.off=true/\D.cut≠-1/\Safe (eC D f 5 load i k).1 (mixP Q P))):=by
 intro k
 induction k with
 | zero=>intro i D h _ _ _;exact⟨rfl,.inl ⟨rfl,h,fun e=>e⟩⟩
 | succ k ih=>
   intro i D h hm hi hw;obtain⟨a1,a2,a3⟩:=h.awrite (f:=f) (m:=5) (n:=1+i) aS aS (nX load i) aS (by rw[kg aS];exact hQ _ _ aS);rcases a3 with ⟨e,ho,hc⟩ | ⟨e,b1,b2,b3⟩
   · rw[nZ e];have hl:(bK D f 5 ((1+i:Nat):Int) (padL load i)).1.waits.length=D.waits.length+1:=by rw[a2];simp
     have ho2:Pow (bK D f 5 ((1+i:Nat):Int) (padL load i)).1 (laid N f load (i+1)) (mixP Q P):=by
      refine ho.congr (fun s hs=>?_);unfold putN laid
      by_cases q:s=f+(1+i)
      · rw[if_pos q,if_pos aS,show s - (f+1)=i by omega]
      · rw[if_neg q]
        by_cases q2:f+1<=s/\s<f+1+i
        · rw[if_pos q2,if_pos aS]
        · rw[if_neg q2,if_neg aS]
     obtain⟨c1,c2⟩:=ih (i+1) ho2 (by rw[a1];exact hm) aS aS;rw[show i+1+k=i+(k+1) by omega] at c2;refine⟨c1.trans a1,?_⟩;rcases c2 with ⟨d1,d2,d3⟩ | ⟨d1,d2,d3,d4⟩
     · exact .inl ⟨d1,d2,fun q=>d3 (hc q)⟩
     · exact .inr ⟨d1,d2,fun q=>d3 (hc q),d4⟩
   · rw[nY (by rw[e];simp)];exact⟨a1,.inr ⟨e,b1,b2,b3⟩⟩
theorem Rest.save (h:Rest D N)(hm:11<=D.many)(hf:1<=f/\f+5<=11)(hP:∀ s:Nat,s<D.many->¬ (1<=s/\s<11)->P s (N s))(hn:number<9223372036854775807)(hl:load.length<=512) :
 (ea D f 5 (number:Int) load).1.many=D.many /\
 (((ea D f 5 (number:Int) load).2=0/\Rest (ea D f 5 (number:Int) load).1 (putN (laid (gZ N f) f load (cu load.length)) f (bU 2 number (dJ load)))/\(D.cut=-1->(ea D f 5 (number:Int) load).1.cut=-1)) \/
 ((ea D f 5 (number:Int) load).2=50/\(ea D f 5 (number:Int) load).1.off=true/\D.cut≠-1 /\
   (Safe (ea D f 5 (number:Int) load).1 (mixP (stA N f) P)\/Safe (ea D f 5 (number:Int) load).1 (mixP (stB N f) P)\/Safe (ea D f 5 (number:Int) load).1 (mixP (stC N f number load) P)))):=by
 have hk:cu load.length<=4:=by unfold cu;omega
 have p0:Pow D N (mixP (stA N f) P):=h.pow (fun s hs=>by
  by_cases q:1<=s/\s<11
  · rw[kg q];unfold stA
    split
    · rename_i e;subst e;exact .inl rfl
    · rfl
  · rw[ms q];exact hP s hs q)
 obtain⟨l1,l2,c1⟩:=p0.awrite (f:=f) (m:=5) (n:=0) aS aS dI (by rw[h.waits];simp) (by rw[kg aS];exact stA_shut N f);rw[show ((0:Nat):Int)=0 from rfl] at l1 l2 c1;unfold ea;rcases c1 with ⟨e1,o1,k1⟩ | ⟨e1,f1,k1,b1⟩;rotate_left 1
 · rw[if_pos iP];exact⟨l1,.inr ⟨e1,f1,k1,.inl b1⟩⟩
 rw[if_neg iP];generalize (bK D f 5 0 bw).1=D1 at *;obtain⟨l3,c2⟩:=o1.flush;rcases c2 with ⟨e2,o2,k2⟩ | ⟨e2,f2,k2,b2⟩;rotate_left 1
 · rw[if_pos (by rw[e2];simp)];exact⟨l3.trans l1,.inr ⟨e2,f2,fun q=>k2 (k1 q),.inl b2⟩⟩
 rw[if_neg (by rw[e2];simp)];generalize (bH D1).1=D2 at *;have hm2:=l3.trans l1;have o2':Rest D2 (laid (gZ N f) f load 0):=o2.congr (fun s hs=>by
  unfold putN laid gZ;rw[if_neg (c:=f+1<=s/\s<f+1+0) aS,Nat.add_zero])
 have hz:∀ s:Nat,s≠f->(s<=f\/f+5<=s)->∀ k,k<=4->laid (gZ N f) f load k s=N s:=fun s q1 q2 k hk=>by
  unfold laid gZ;rw[if_neg aS,if_neg q1]
 have hzf:∀ k,laid (gZ N f) f load k f=bw:=fun k=>by
  unfold laid gZ;rw[if_neg aS,if_pos rfl]
 have p2:Pow D2 (laid (gZ N f) f load 0) (mixP (stB N f) P):=o2'.pow (fun s hs=>by
  rw[hm2] at hs
  by_cases q:1<=s/\s<11
  · rw[kg q];unfold stB
    split
    · rename_i e;subst e;exact hzf 0
    · split
      · trivial
      · exact hz s aS aS 0 aS
  · rw[ms q,hz s aS aS 0 aS];exact hP s hs q)
 obtain⟨l4,c3⟩:=Pow.fill hf (fun s b q=>stB_shut N f b q) (cu load.length) 0 p2 aS aS (by rw[o2.waits];simp;omega);rw[aD] at c3;unfold dX;rcases c3 with ⟨e3,o3,k3⟩ | ⟨e3,f3,k3,b3⟩;rotate_left 1
 · rw[if_pos (show (if (eC D2 f 5 load 0 (cu load.length)).2≠0 then eC D2 f 5 load 0 (cu load.length) else bH (eC D2 f 5 load 0 (cu load.length)).1).2≠0 by rw[if_pos (by rw[e3];simp),e3];simp),if_pos (by rw[e3];simp)];exact⟨l4.trans hm2,.inr ⟨e3,f3,fun q=>k3 (k2 (k1 q)),.inr (.inl b3)⟩⟩
 have hfv:(if (eC D2 f 5 load 0 (cu load.length)).2≠0 then eC D2 f 5 load 0 (cu load.length) else bH (eC D2 f 5 load 0 (cu load.length)).1)=bH (eC D2 f 5 load 0 (cu load.length)).1:=by rw[if_neg (by rw[e3];simp)]
 rw[hfv];generalize (eC D2 f 5 load 0 (cu load.length)).1=D3 at *;obtain⟨l5,c4⟩:=o3.flush;rcases c4 with ⟨e4,o4,k4⟩ | ⟨e4,f4,k4,b4⟩;rotate_left 1
 · rw[if_pos (by rw[e4];simp)];exact⟨(l5.trans l4).trans hm2,.inr ⟨e4,f4,fun q=>k4 (k3 (k2 (k1 q))),.inr (.inl b4)⟩⟩
 rw[if_neg (by rw[e4];simp)];generalize (bH D3).1=D4 at *;have hm4:=(l5.trans l4).trans hm2;have hmk:fO 2 (number:Int) (dJ load)=(bU 2 number (dJ load),0):=by
  unfold fO;rw[if_neg aS,if_neg (by rw[lJ];omega)];simp
 have hpv:cI D4 f 5 0 2 (number:Int) (dJ load)=bK D4 f 5 0 (bU 2 number (dJ load)):=by
  unfold cI;rw[hmk,if_neg aZ]
 rw[hpv];have p4:Pow D4 (laid (gZ N f) f load (cu load.length)) (mixP (stC N f number load) P):=o4.pow (fun s hs=>by
  rw[hm4] at hs
  by_cases q:1<=s/\s<11
  · rw[kg q];unfold stC
    split
    · rename_i e;subst e;right;rw[hzf];decide
    · rfl
  · rw[ms q,hz s aS aS _ hk];exact hP s hs q)
 obtain⟨l6,l7,c5⟩:=p4.awrite (f:=f) (m:=5) (n:=0) aS aS (jh 2 number (dJ load) (by rw[lJ];omega)) (by rw[o4.waits];simp) (by rw[kg aS];exact stC_shut N f number load);rw[show ((0:Nat):Int)=0 from rfl] at l6 l7 c5;rcases c5 with ⟨e5,o5,k5⟩ | ⟨e5,f5,k5,b5⟩;rotate_left 1
 · rw[if_pos (by rw[e5];simp)];exact⟨l6.trans hm4,.inr ⟨e5,f5,fun q=>k5 (k4 (k3 (k2 (k1 q)))),.inr (.inr b5)⟩⟩
 rw[if_neg (by rw[e5];simp)];generalize (bK D4 f 5 0 (bU 2 number (dJ load))).1=D5 at *;obtain⟨l8,c6⟩:=o5.flush;rcases c6 with ⟨e6,o6,k6⟩ | ⟨e6,f6,k6,b6⟩
 · exact⟨(l8.trans l6).trans hm4,.inl ⟨e6,o6,fun q=>k6 (k5 (k4 (k3 (k2 (k1 q)))))⟩⟩
 · exact⟨(l8.trans l6).trans hm4,.inr ⟨e6,f6,fun q=>k6 (k5 (k4 (k3 (k2 (k1 q))))),.inr (.inr b6)⟩⟩
end
def SlMay (N:Secs)(s:SlV3)(n:Nat)(L:List UInt8):Prop:=SlN N s n\/SlN N ⟨othS s,((n+1:Nat):Int),L⟩ (n+1)
section
variable {D:aX} {N:Secs} {P:Says} {s:SlV3} {n:Nat} {L:List UInt8}
theorem SlN.save (h:SlN N s n)(hr:Rest D N)(hm:11<=D.many)(hP:∀ s:Nat,s<D.many->¬ (1<=s/\s<11)->P s (N s))(hn:n<9223372036854775806)(hL:L.length<=512) :
 (dj D 1 5 6 5 s L).1.many=D.many /\
 (((dj D 1 5 6 5 s L).2.2=0/\(dj D 1 5 6 5 s L).2.1=⟨othS s,((n+1:Nat):Int),L⟩/\(D.cut=-1->(dj D 1 5 6 5 s L).1.cut=-1) /\
   ∃ N',Rest (dj D 1 5 6 5 s L).1 N'/\SlN N' ⟨othS s,((n+1:Nat):Int),L⟩ (n+1)/\∀ j,¬ (1<=j/\j<11)->N' j=N j) \/
 ((dj D 1 5 6 5 s L).2.2=50/\(dj D 1 5 6 5 s L).2.1=s/\(dj D 1 5 6 5 s L).1.off=true/\D.cut≠-1 /\
   ∃ Q:Says,Safe (dj D 1 5 6 5 s L).1 (mixP Q P)/\∀ N':Secs,(∀ j,1<=j->j<11->Q j (N' j))->SlMay N' s n L)):=by
 have hle:=othS_le s;have hf:(if s.now=0 then 6 else 1)=1+5 * othS s:=by unfold othS;split <;> rfl
 have ho:(if s.now=0 then 1 else 0)=othS s:=by unfold othS;rfl
 have hm5:(if s.now=0 then 5 else 5)=5:=by split <;> rfl
 have hnum:=h.num;have e:dj D 1 5 6 5 s L=if (ea D (1+5 * othS s) 5 ((n+1:Nat):Int) L).2≠0 then ((ea D (1+5 * othS s) 5 ((n+1:Nat):Int) L).1,s,(ea D (1+5 * othS s) 5 ((n+1:Nat):Int) L).2) else ((ea D (1+5 * othS s) 5 ((n+1:Nat):Int) L).1,⟨othS s,((n+1:Nat):Int),L⟩,0):=by
  unfold dj;rw[if_neg (by rw[hnum];omega),hf,ho,hm5,hnum,show (n:Int)+1=((n+1:Nat):Int) by omega]
 rw[e];have hk4:cu L.length<=4:=by unfold cu;omega
 have hs:=hr.save (f:=1+5 * othS s) (number:=n+1) (load:=L) hm aS hP aS hL;generalize ea D (1+5 * othS s) 5 ((n+1:Nat):Int) L=R at *;obtain⟨E,z⟩:=R;obtain⟨a1,a2⟩:=hs;simp only at a1 a2 ⊢;have hlaid:∀ (i:Nat),i<cu L.length->laid (gZ N (1+5 * othS s)) (1+5 * othS s) L (cu L.length) (1+5 * othS s+(1+i))=padL L i:=fun i hi=>by
  unfold laid;rw[if_pos aS,show 1+5 * othS s+(1+i) - (1+5 * othS s+1)=i by omega]
 have hout:∀ j:Nat,j≠1+5 * othS s->(j<=1+5 * othS s\/1+5 * othS s+5<=j)->laid (gZ N (1+5 * othS s)) (1+5 * othS s) L (cu L.length) j=N j:=fun j q1 q2=>by
  unfold laid gZ;rw[if_neg aS,if_neg q1]
 rcases a2 with ⟨e1,o1,k1⟩ | ⟨e1,f1,k1,hb⟩
 · rw[if_neg iP];refine⟨a1,.inl ⟨rfl,rfl,k1,_,o1,h.next (fun j j1 j2 hc=>?_) (slotN_of hL aS ?_ (fun i hi=>?_)),fun j hj=>?_⟩⟩
   · unfold putN;rw[if_neg aS];exact hout j aS aS
   · unfold putN;rw[if_pos rfl]
   · unfold putN;rw[if_neg aS];exact hlaid i hi
   · unfold putN;rw[if_neg aS];exact hout j aS aS
 · rw[if_pos iP];refine⟨a1,.inr ⟨e1,rfl,f1,k1,?_⟩⟩;rcases hb with hb | hb | hb
   · refine⟨_,hb,fun N' hN=>.inl (h.keep (fun j j1 j2 hc=>?_) ?_)⟩
     · have:=hN j j1 j2;unfold stA at this
       rwa [if_neg aS] at this
     · have:=hN (1+5 * othS s) aS aS;unfold stA at this;rw[if_pos rfl] at this;rcases this with q | q
       · left
         refine lK (fun j j1 j2=>?_)
         by_cases qj:j=1+5 * othS s
         · rw[qj];exact q
         · have:=hN j aS aS;unfold stA at this
           rwa [if_neg qj] at this
       · right
         exact mq (n7 q)
   · refine⟨_,hb,fun N' hN=>.inl (h.keep (fun j j1 j2 hc=>?_) ?_)⟩
     · have:=hN j j1 j2;unfold stB at this
       rwa [if_neg aS,if_neg aS] at this
     · right
       have:=hN (1+5 * othS s) aS aS;unfold stB at this;rw[if_pos rfl] at this;refine mq ?_;rw[this];exact n7 aU
   · refine⟨_,hb,fun N' hN=>?_⟩;have hrest:∀ j:Nat,1<=j->j<11->(j<1+5 * othS s\/1+5 * othS s+5<=j)->N' j=N j:=fun j j1 j2 hc=>by
      have:=hN j j1 j2;unfold stC at this;rw[if_neg aS] at this;rw[this];exact hout j aS aS
     have:=hN (1+5 * othS s) aS aS;unfold stC at this;rw[if_pos rfl] at this;rcases this with q | q
     · right
       refine h.next hrest (slotN_of hL aS q (fun i hi=>?_));have:=hN (1+5 * othS s+(1+i)) aS aS;unfold stC at this;rw[if_neg aS] at this;rw[this];exact hlaid i hi
     · left
       exact h.keep hrest (.inr (mq (not_head127 q)))
end
structure KpN (p:PV)(hash:Int)(N:Secs)(s:SlV3)(n:Nat)(last:Int)(is:List Int):Prop where
 sl:SlN N s n
 none_:n=0->last=-1/\is=[]
 some_:0<n->s.load=stBs ⟨last,hash,is⟩/\fd p ⟨last,hash,is⟩=true/\mc ⟨last,hash,is⟩
section
variable {p:PV} {hash:Int} {D:aX} {N N':Secs} {P:Says} {s:SlV3} {n:Nat} {last:Int} {is:List Int}
theorem KpN.congr (h:KpN p hash N s n last is)(hs:∀ j:Nat,1<=j->j<11->N' j=N j):KpN p hash N' s n last is:=⟨h.sl.congr hs,h.none_,h.some_⟩
theorem KpN.open_ (h:KpN p hash N s n last is)(hr:Rest D N)(hm:11<=D.many)(hv:dF p=true):∃ o,ec D 1 5 6 5 p hash=({ D with ops:=o },kOf hash s n last is,0):=by
 obtain⟨o,e⟩:=h.sl.open_ hr hm;refine⟨o,?_⟩;unfold ec;rw[e,if_neg (by rw[hv];simp),if_neg aZ];simp only;rcases aI n with q | q
 · obtain⟨e1,_⟩:=h.sl.none_ q;subst e1 q
   rfl
 · obtain⟨e1,_⟩:=h.sl.some_ q;obtain⟨l1,l2,l3⟩:=h.some_ q;have hl:kV s=(s.load,s.number,true):=by unfold kV;rw[if_neg (by rcases e1 with e | e <;> omega)]
   rw[hl,if_neg aZ];simp only;rw[l1,kread_stBs l3 l2,if_neg aZ,if_neg aZ];unfold kOf;rw[if_neg aS,am q]
theorem KpN.saved (h:KpN p hash N s n last is)(hr:Rest D N)(hm:11<=D.many)(hP:∀ s:Nat,s<D.many->¬ (1<=s/\s<11)->P s (N s))(hn:n<9223372036854775806)(k:KpV)(hk:k.s=s){tick:Int}{cells:List Int}(hsa:mc ⟨tick,hash,cells⟩)(hf:fd p ⟨tick,hash,cells⟩=true) :
 (eM D 1 5 6 5 p hash k tick cells).1.many=D.many /\
 (((eM D 1 5 6 5 p hash k tick cells).2.2=0/\(D.cut=-1->(eM D 1 5 6 5 p hash k tick cells).1.cut=-1) /\
   ∃ N' s',(eM D 1 5 6 5 p hash k tick cells).2.1=kOf hash s' (n+1) tick cells/\Rest (eM D 1 5 6 5 p hash k tick cells).1 N'/\KpN p hash N' s' (n+1) tick cells/\∀ j,¬ (1<=j/\j<11)->N' j=N j) \/
 ((eM D 1 5 6 5 p hash k tick cells).2.2=50/\(eM D 1 5 6 5 p hash k tick cells).1.off=true/\D.cut≠-1 /\
   ∃ Q:Says,Safe (eM D 1 5 6 5 p hash k tick cells).1 (mixP Q P)/\∀ N':Secs,(∀ j,1<=j->j<11->Q j (N' j))->KpN p hash N' s n last is\/∃ s',KpN p hash N' s' (n+1) tick cells)):=by
 subst hk;have hun:eM D 1 5 6 5 p hash k tick cells=if fd p ⟨tick,hash,cells⟩=false then (D,k,41)
  else if (dj D 1 5 6 5 k.s (stBs ⟨tick,hash,cells⟩)).2.2≠0 then ((dj D 1 5 6 5 k.s (stBs ⟨tick,hash,cells⟩)).1,{ k with s:=(dj D 1 5 6 5 k.s (stBs ⟨tick,hash,cells⟩)).2.1 },(dj D 1 5 6 5 k.s (stBs ⟨tick,hash,cells⟩)).2.2)
  else ((dj D 1 5 6 5 k.s (stBs ⟨tick,hash,cells⟩)).1,⟨(dj D 1 5 6 5 k.s (stBs ⟨tick,hash,cells⟩)).2.1,⟨tick,hash,cells⟩,true⟩,0):=rfl
 rw[if_neg (by rw[hf];simp)] at hun;rw[hun];have hnew:∀ N' s',SlN N' s' (n+1)->s'.load=stBs ⟨tick,hash,cells⟩->KpN p hash N' s' (n+1) tick cells:=fun N' s' h1 h2=>⟨h1,fun e=>absurd e aS,fun _=>⟨h2,hf,hsa⟩⟩
 obtain⟨a1,a2⟩:=h.sl.save hr hm hP hn (fits_len hf);rcases a2 with ⟨e1,e2,e3,N',r1,r2,r3⟩ | ⟨e1,e2,e3,e4,Q,r1,r2⟩
 · rw[if_neg iP];refine⟨a1,.inl ⟨rfl,e3,N',_,?_,r1,hnew N' _ r2 rfl,r3⟩⟩
   show (⟨(dj D 1 5 6 5 k.s (stBs ⟨tick,hash,cells⟩)).2.1,⟨tick,hash,cells⟩,true⟩:KpV)=_
   rw[e2];unfold kOf;rw[if_neg aS,am aS]
 · rw[if_pos iP];refine⟨a1,.inr ⟨e1,e3,e4,Q,r1,fun N' hN=>?_⟩⟩;rcases r2 N' hN with q | q
   · exact .inl ⟨q,h.none_,h.some_⟩
   · exact .inr ⟨_,hnew N' _ q rfl⟩
end
