/- Parts. -/
import Derived.Test.YtmeebofhlilcmaaGreatPr11
import Derived.Test.YtmeebofhlilcmaaGreatPr12
set_option linter.unusedVariables false
set_option linter.unusedSimpArgs false
set_option maxRecDepth 100000
set_option maxHeartbeats 0
namespace Go.Proofs.YtmeebofhlilcmaaGreat
variable {n f m nx:Nat} {kind:Int} {D:aX} {l:List UInt8}
open Go.RowKit
structure KpV where
 s:SlV3
 last:SV
 has:Bool
def iq:KpV:=⟨⟨2,0,[]⟩,gU,false⟩
def lj (s:SlV3):List UInt8 × Int × Bool:=if s.now=2 then ([],0,false) else (s.load,s.number,true)
def ef (D:aX)(fl ml fr mr:Nat)(p:PV)(hash:Int):aX × KpV × Int :=
 if dJ p=false then (D,iq,40)
 else if (du D fl ml fr mr).2.2≠0 then ((du D fl ml fr mr).1,iq,(du D fl ml fr mr).2.2)
 else if (lj (du D fl ml fr mr).2.1).2.2=false then ((du D fl ml fr mr).1,⟨(du D fl ml fr mr).2.1,gU,false⟩,0)
 else if (fL p (lj (du D fl ml fr mr).2.1).1).2≠0 then ((du D fl ml fr mr).1,iq,53)
 else if (fL p (lj (du D fl ml fr mr).2.1).1).1.hash≠hash then ((du D fl ml fr mr).1,iq,42)
 else ((du D fl ml fr mr).1,⟨(du D fl ml fr mr).2.1,(fL p (lj (du D fl ml fr mr).2.1).1).1,true⟩,0)
def eM (D:aX)(fl ml fr mr:Nat)(p:PV)(hash:Int)(k:KpV)(tick:Int)(cells:List Int):aX × KpV × Int :=
 if eY p ⟨tick,hash,cells⟩=false then (D,k,41)
 else if (dn D fl ml fr mr k.s (stBs ⟨tick,hash,cells⟩)).2.2≠0 then ((dn D fl ml fr mr k.s (stBs ⟨tick,hash,cells⟩)).1,{ k with s:=(dn D fl ml fr mr k.s (stBs ⟨tick,hash,cells⟩)).2.1 },(dn D fl ml fr mr k.s (stBs ⟨tick,hash,cells⟩)).2.2)
 else ((dn D fl ml fr mr k.s (stBs ⟨tick,hash,cells⟩)).1,⟨(dn D fl ml fr mr k.s (stBs ⟨tick,hash,cells⟩)).2.1,⟨tick,hash,cells⟩,true⟩,0)
theorem kread_stBs {p:PV}{s:SV}(hs:mF s)(hf:eY p s=true):fL p (stBs s)=(s,0):=by
 obtain⟨h1,_,_,h4,_⟩:=jR.1 hf;unfold fL;rw[if_neg (by rw[h1];simp),stBs_len,if_neg aS,if_neg aS,<- h4,snapOf_stBs hs.tick hs.hash hs.cells,if_pos hf]
theorem fits_len {p:PV}{s:SV}(hf:eY p s=true):(stBs s).length<=512:=by
 obtain⟨h1,_,_,h4,_⟩:=jR.1 hf;have h60:=(dN.1 h1).2.2.2.2.1;rw[stBs_len,h4];omega
def kOf (hash:Int)(s:SlV3)(n:Nat)(last:Int)(is:List Int):KpV:=⟨s,if n=0 then gU else ⟨last,hash,is⟩,decide (0<n)⟩
def fG (Q:List UInt8->Prop)(b:List UInt8):Prop:=∀ (S:List UInt8) (c:Nat),c<=128->S.length=128->Q S->Q (splice S 0 (b.take c))
abbrev Secs:=Nat->List UInt8
abbrev Says:=Nat->List UInt8->Prop
structure Safe (D:aX)(P:Says):Prop where
 ok:D.Ok
 room:D.room=D.many
 kept:∀ s:Nat,s<D.many->P s (ch D.kept (s:Int))
 shut:∀ p ∈ D.waits,fG (P p.1) p.2
structure Pow (D:aX)(N:Secs)(P:Says):Prop where
 fit:Fit D
 now:∀ s:Nat,s<D.many->ch D.now (s:Int)=N s
 kept:∀ s:Nat,s<D.many->P s (ch D.kept (s:Int))
 shut:∀ p ∈ D.waits,fG (P p.1) p.2
structure Rest (D:aX)(N:Secs):Prop where
 fit:Fit D
 waits:D.waits=[]
 now:∀ s:Nat,s<D.many->ch D.now (s:Int)=N s
def putN (N:Secs)(n:Nat)(b:List UInt8):Secs:=fun s=>if s=n then b else N s
section
variable {D:aX} {N N':Secs} {P P':Says}
theorem Pow.safe (h:Pow D N P):Safe D P:=⟨h.fit.ok,h.fit.room,h.kept,h.shut⟩
theorem Rest.keeps (h:Rest D N):D.kept=D.now:=by rw[h.fit.now,h.waits];rfl
theorem Rest.pow (h:Rest D N)(hP:∀ s:Nat,s<D.many->P s (N s)):Pow D N P :=
 ⟨h.fit,h.now,fun s hs=>by rw[h.keeps,h.now s hs];exact hP s hs,fun p hp=>by rw[h.waits] at hp;cases hp⟩
theorem Rest.of_pow (h:Pow D N P)(hw:D.waits=[]):Rest D N:=⟨h.fit,hw,h.now⟩
theorem Rest.congr (h:Rest D N)(e:∀ s:Nat,s<D.many->N s=N' s):Rest D N':=⟨h.fit,h.waits,fun s hs=>(h.now s hs).trans (e s hs)⟩
theorem Pow.congr (h:Pow D N P)(e:∀ s:Nat,s<D.many->N s=N' s):Pow D N' P:=⟨h.fit,fun s hs=>(h.now s hs).trans (e s hs),h.kept,h.shut⟩
theorem Safe.crash (h:Safe D P)(cs:List UInt8):Rest (fU D cs) (fun s=>ch (fU D cs).now (s:Int))/\(fU D cs).cut=-1/\(fU D cs).many=D.many/\∀ s:Nat,s<D.many->P s (ch (fU D cs).now (s:Int)):=by
 obtain⟨c1,c2,c3,c4⟩:=crash_fit h.ok h.room cs;refine⟨⟨c1.fit,c2,fun _ _=>rfl⟩,rfl,c3,fun s hs=>?_⟩;rw[c4];exact crash_closed h.ok cs P h.kept (fun p hp S c hc hS hP=>h.shut p hp S c hc hS hP) s hs
theorem Rest.ops (h:Rest D N)(o:List Int):Rest { D with ops:=o } N:=⟨h.fit.ops o,h.waits,h.now⟩
theorem Pow.ops (h:Pow D N P)(o:List Int):Pow { D with ops:=o } N P:=⟨h.fit.ops o,h.now,h.kept,h.shut⟩
theorem Rest.cutTo (h:Rest D N)(c:Int)(h0:-1<=c)(h1:c<=9223372036854775807):Rest { D with cut:=c } N:=⟨h.fit.cutTo c h0 h1,h.waits,h.now⟩
theorem Pow.cutTo (h:Pow D N P)(c:Int)(h0:-1<=c)(h1:c<=9223372036854775807):Pow { D with cut:=c } N P:=⟨h.fit.cutTo c h0 h1,h.now,h.kept,h.shut⟩
theorem Pow.write (h:Pow D N P)(hn:n<D.many){b:List UInt8}(hb:b.length=128)(hw:D.waits.length<1000000)(hs:fG (P n) b) :
 (eL D (n:Int) b).1.many=D.many/\(eL D (n:Int) b).1.waits=D.waits ++ [(n,b)] /\
 (((eL D (n:Int) b).2=0/\Pow (eL D (n:Int) b).1 (putN N n b) P/\(D.cut=-1->(eL D (n:Int) b).1.cut=-1)) \/
   ((eL D (n:Int) b).2=50/\(eL D (n:Int) b).1.off=true/\D.cut≠-1/\Safe (eL D (n:Int) b).1 P)):=by
 have hwr:=h.fit.write_in (n:=(n:Int)) aS aS b;have hmem:∀ p ∈ (ez (putD D (n:Int) b) 2).waits,fG (P p.1) p.2:=fun p hp=>by
  rcases List.mem_append.1 (show p ∈ D.waits ++ [((n:Int).toNat,b)] from hp) with q | q
  · exact h.shut p q
  · obtain rfl:p=((n:Int).toNat,b):=by simpa using q
    exact hs
 rw[hwr];refine⟨rfl,rfl,?_⟩
 by_cases hc:D.cut=0
 · right
   rw[if_pos hc];exact⟨rfl,by show (D.cut == 0)=true;rw[hc];rfl,aS,mJ (putD_ok h.fit.ok (n:=(n:Int)) aS aS hb aS) 2,h.fit.room,h.kept,hmem⟩
 · left
   rw[if_neg hc];refine⟨rfl,⟨h.fit.put aS aS hb hw hc,fun s hs=>?_,h.kept,hmem⟩,fun e=>by show (if 0<=D.cut then D.cut - 1 else D.cut)=-1;rw[e];rfl⟩;rw[h.fit.put_now aS aS hb hs];unfold putN
   by_cases q:s=n
   · rw[if_pos aS,if_pos q]
   · rw[if_neg aS,if_neg q];exact h.now s hs
theorem Pow.awrite (h:Pow D N P)(hfm:f+m<=D.many)(hn:n<m){b:List UInt8}(hb:b.length=128)(hw:D.waits.length<1000000)(hs:fG (P (f+n)) b) :
 (bJ D f m (n:Int) b).1.many=D.many/\(bJ D f m (n:Int) b).1.waits=D.waits ++ [(f+n,b)] /\
 (((bJ D f m (n:Int) b).2=0/\Pow (bJ D f m (n:Int) b).1 (putN N (f+n) b) P/\(D.cut=-1->(bJ D f m (n:Int) b).1.cut=-1)) \/
   ((bJ D f m (n:Int) b).2=50/\(bJ D f m (n:Int) b).1.off=true/\D.cut≠-1/\Safe (bJ D f m (n:Int) b).1 P)):=by
 have e:bJ D f m (n:Int) b=eL D ((f+n:Nat):Int) b:=by
  unfold bJ;rw[if_neg aS,show (f:Int)+n=((f+n:Nat):Int) by omega]
 rw[e];exact h.write aS hb hw hs
theorem Pow.flush (h:Pow D N P) :
 (bG D).1.many=D.many/\(((bG D).2=0/\Rest (bG D).1 N/\(D.cut=-1->(bG D).1.cut=-1)) \/
  ((bG D).2=50/\(bG D).1.off=true/\D.cut≠-1/\Safe (bG D).1 P)):=by
 by_cases hc:D.cut=0
 · rw[h.fit.flush_cut hc];exact⟨rfl,.inr ⟨rfl,by show (D.cut == 0)=true;rw[hc];rfl,aS,mJ h.fit.ok 3,h.fit.room,h.kept,h.shut⟩⟩
 · obtain⟨e,f1,f2,f3⟩:=h.fit.flush_ok hc;rw[e];refine⟨rfl,.inl ⟨rfl,⟨f1,rfl,fun s hs=>?_⟩,fun e=>by show (if 0<=D.cut then D.cut - 1 else D.cut)=-1;rw[e];rfl⟩⟩;simp only;rw[f3];exact h.now s hs
end
def fA (N:Secs)(f nx m:Nat):Secs:=fun s=>if f+nx<=s/\s<f+m then br else N s
def recS (N:Secs)(f:Nat)(kind:Int)(n:Nat):Prop:=recB (N (f+n)) kind n=true
theorem scan_first {now:List UInt8}(hn:nx<=m)(hr:∀ n,n<nx->recN now f kind n)(hno:nx<m->¬ recN now f kind nx):(bV now f kind m).2.1=nx:=by
 have hs:=scan_is now f kind m;rcases Nat.lt_trichotomy (bV now f kind m).2.1 nx with q | q | q
 · exfalso
   cases hb:(bV now f kind m).1 with
   | true=>have:=hs.yes hb;omega
   | false=>exact (hs.no hb).2 (hr _ q)
 · exact q
 · exfalso
   exact hno (by have:=hs.le;omega) (hs.recs nx q)
theorem Rest.jopen {N:Secs}{P:Says}(h:Rest D N)(k1:1<=kind)(k2:kind<=255)(hfm:f+m<=D.many)(hP:∀ s:Nat,s<D.many->P s (N s))
 (hn:nx<=m) (hr:∀ n,n<nx->recS N f kind n) (hno:nx<m->¬ recS N f kind nx) (hz:∀ n,nx<=n->n<m->fG (P (f+n)) br) :
 (bO D f m kind).1.many=D.many/\(((bO D f m kind).2=(nx,0)/\Rest (bO D f m kind).1 (fA N f nx m)/\(D.cut=-1->(bO D f m kind).1.cut=-1)) \/
  ((bO D f m kind).2=(0,50)/\(bO D f m kind).1.off=true/\D.cut≠-1/\Safe (bO D f m kind).1 P)):=by
 have hrN:∀ n,n<m->(recN D.now f kind n ↔ recS N f kind n):=fun n hn=>by unfold recN recS;rw[h.now (f+n) aS]
 have hnx:=scan_first (now:=D.now) (f:=f) (kind:=kind) hn (fun n q=>(hrN n aS).2 (hr n q)) (fun q e=>hno q ((hrN nx q).1 e));obtain⟨r1,r2,r3,r4,r5⟩:=rdK_fit h.fit m;have rc:(rdK D m).cut=D.cut:=by obtain⟨o,e⟩:=gZ D m;rw[e]
 have hs:=scan_is D.now f kind m;have hle:=mM D.now f kind m;have hm4:=h.fit.ok.many1;have hun:bO D f m kind=if (el D f m kind).2≠0 then ((el D f m kind).1,0,(el D f m kind).2)
  else if (bV D.now f kind m).2.2=[] then ((el D f m kind).1,(bV D.now f kind m).2.1,0)
  else if (bG (el D f m kind).1).2≠0 then ((bG (el D f m kind).1).1,0,(bG (el D f m kind).1).2)
  else ((bG (el D f m kind).1).1,(bV D.now f kind m).2.1,0):=by
  unfold bO;rw[if_neg aS,if_neg (by rw[h.fit.off];simp)]
 unfold el at hun;have hR:Rest (rdK D m) N:=⟨r1,r3.trans h.waits,fun s hs=>by rw[r4];exact h.now s (by rw[<- r2];exact hs)⟩;have hPw:=hR.pow (fun s hs=>hP s (by rw[<- r2];exact hs));have key:∀ (l:List Int) (E:aX) (M:Secs),Pow E M P->E.many=D.many->(∀ x ∈ l,∃ n:Nat,x=(n:Int)/\nx<=n/\n<m)->E.waits.length+l.length<1000000 ->
  (dQ E f m l).1.many=D.many/\(((dQ E f m l).2=0/\Pow (dQ E f m l).1 (fun s=>if f<=s/\((s:Int) - f) ∈ l then br else M s) P/\(E.cut=-1->(dQ E f m l).1.cut=-1)/\(l=[]->(dQ E f m l).1.waits=E.waits)) \/
   ((dQ E f m l).2=50/\(dQ E f m l).1.off=true/\E.cut≠-1/\Safe (dQ E f m l).1 P)):=by
  intro l
  induction l with
  | nil=>intro E M hE he _ _;exact⟨he,.inl ⟨rfl,hE.congr (fun s _=>by rw[if_neg ba]),fun e=>e,fun _=>rfl⟩⟩
  | cons x l ih=>
    intro E M hE he hx hw;simp only[aF] at hw;obtain⟨n,rfl,hn1,hn2⟩:=hx x (aM ..);obtain⟨a1,a2,a3⟩:=hE.awrite (f:=f) (m:=m) (n:=n) (by rw[he];exact hfm) hn2 dO aS (hz n hn1 hn2);rcases a3 with ⟨b1,b2,b3⟩ | ⟨b1,b2,b3,b4⟩
    · rw[lU b1];obtain⟨c1,c2⟩:=ih (bJ E f m (n:Int) br).1 _ b2 (a1.trans he) (fun y hy=>hx y (aC _ hy)) (by rw[a2];simp;omega);refine⟨c1,?_⟩;rcases c2 with ⟨d1,d2,d3,d4⟩ | ⟨d1,d2,d3,d4⟩
      · refine .inl ⟨d1,d2.congr (fun s _=>?_),fun e=>d3 (b3 e),fun e=>by cases e⟩
        by_cases q:f<=s/\((s:Int) - f) ∈ l
        · rw[if_pos q,if_pos ⟨q.1,aC _ q.2⟩]
        · rw[if_neg q];unfold putN
          by_cases q2:s=f+n
          · rw[if_pos q2,if_pos ⟨aS,by rw[show ((s:Int) - f)=(n:Int) by omega];exact aM ..⟩]
          · rw[if_neg q2,if_neg];rintro ⟨q3,q4⟩;rcases List.mem_cons.1 q4 with q5 | q5
            · omega
            · exact q ⟨q3,q5⟩
      · exact .inr ⟨d1,d2,fun e=>d3 (b3 e),d4⟩
    · rw[lV jd];exact⟨a1.trans he,.inr ⟨b1,b2,b3,b4⟩⟩
 obtain⟨v1,v2⟩:=key (bV D.now f kind m).2.2 (rdK D m) N hPw r2 (fun x hx=>by obtain⟨n,e,q1,q2⟩:=hs.dirty x hx;exact⟨n,e,aS,q2⟩) (by rw[hR.waits];simp;omega);generalize hS:bV D.now f kind m=sc at *;obtain⟨so,sn,dl⟩:=sc;simp only at hun hnx v1 v2 hle;have hdirty:=hs.dirty;have hall:=hs.all;simp only at hdirty hall;subst hnx;have hfin:∀ s:Nat,s<D.many->(if f<=s/\((s:Int) - f) ∈ dl then br else N s)=fA N f sn m s:=fun s hs=>by
  unfold fA
  by_cases q:f+sn<=s/\s<f+m
  · rw[if_pos q]
    by_cases q2:f<=s/\((s:Int) - f) ∈ dl
    · rw[if_pos q2]
    · rw[if_neg q2];apply Classical.byContradiction;intro hne;refine q2 ⟨aS,?_⟩;have:=hall (s - f) aS aS (by rw[show f+(s - f)=s by omega,h.now s hs];exact hne);rw[show ((s:Int) - f)=((s - f:Nat):Int) by omega];exact this
  · rw[if_neg q,if_neg];rintro ⟨q1,q2⟩;obtain⟨n,e,q3,q4⟩:=hdirty _ q2;omega
 rcases v2 with ⟨d1,d2,d3,d4⟩ | ⟨d1,d2,d3,d4⟩
 · rw[if_neg aS] at hun
   by_cases hd:dl=[]
   · rw[if_pos hd] at hun;rw[hun];exact⟨v1,.inl ⟨rfl,⟨d2.fit,(d4 hd).trans hR.waits,fun s hs=>(d2.now s hs).trans (hfin s (by rw[<- v1];exact hs))⟩,fun e=>d3 (rc.trans e)⟩⟩
   · rw[if_neg hd] at hun;obtain⟨g1,g2⟩:=d2.flush;rcases g2 with ⟨e1,e2,e3⟩ | ⟨e1,e2,e3,e4⟩
     · rw[if_neg aS] at hun;rw[hun];exact⟨g1.trans v1,.inl ⟨rfl,e2.congr (fun s hs=>hfin s (by rw[<- v1,<- g1];exact hs)),fun e=>e3 (d3 (rc.trans e))⟩⟩
     · rw[if_pos aS,e1] at hun;rw[hun];exact⟨g1.trans v1,.inr ⟨rfl,e2,fun e=>e3 (d3 (rc.trans e)),e4⟩⟩
 · rw[if_pos aS,d1] at hun;rw[hun];exact⟨v1,.inr ⟨rfl,d2,fun e=>d3 (rc.trans e),d4⟩⟩
theorem seal_rec {N:Secs}{kind:Nat}(k1:1<=kind)(k2:kind<=255)(hl:l.length<=113)(hn:n<9223372036854775808)(h:N (f+n)=bT kind n l):recS N f (kind:Int) n/\eZ (N (f+n))=l:=by
 obtain⟨q1,q2,q3⟩:=og (kind:=(kind:Int)) (n:=n) (load:=l) aS aS hn hl;rw[ax] at q1 q2 q3;unfold recS recB;rw[h];refine⟨?_,q3⟩;rw[q1,q2,Bool.true_and,decide_eq_true_iff];unfold sg;omega
structure Jrn (N:Secs)(f m kind:Nat)(all:List (List UInt8)):Prop where
 le:all.length<=m
 len:∀ l ∈ all,l.length<=113
 recs:∀ (n:Nat) (l:List UInt8),all[n]?=some l->N (f+n)=bT kind n l
 zero:∀ n,all.length<=n->n<m->N (f+n)=br
def SecA (kind k:Nat)(all:List (List UInt8))(n:Nat)(S:List UInt8):Prop :=
 (∀ l,n<k->all[n]?=some l->S=bT kind n l)/\(k<=n->bw S 127=0\/∃ l,all[n]?=some l/\S=bT kind n l)
def SecJ (kind k:Nat)(all:List (List UInt8))(n:Nat)(S:List UInt8):Prop :=
 (∀ l,n<k->all[n]?=some l->S=bT kind n l)/\(k<=n->bw S 127=0\/bw S 0=0\/∃ l,all[n]?=some l/\S=bT kind n l)
section
variable {kind k n:Nat} {all:List (List UInt8)} {S:List UInt8}
theorem SecA.j (h:SecA kind k all n S):SecJ kind k all n S:=⟨h.1,fun q=>by rcases h.2 q with e | e;exact .inl e;exact .inr (.inr e)⟩
theorem SecJ.less (h:SecJ kind k all n S){k':Nat}(hk:k'<=k)(hka:k<=all.length):SecJ kind k' all n S:=by
 refine⟨fun l q=>h.1 l aS,fun q=>?_⟩;rcases aw n k with q2 | q2
 · exact .inr (.inr ⟨all[n]'aS,ap aS,h.1 _ q2 (ap aS)⟩)
 · exact h.2 q2
theorem SecJ.wiped (hn:k<=n):fG (SecJ kind k all n) br:=by
 intro S c hc hS h;refine⟨fun l q=>absurd q aS,fun _=>?_⟩;have hl:(br.take c).length=c:=by rw[aA,dO];omega
 rcases aH c with q | q
 · subst q;have e:splice S 0 (br.take 0)=S:=by simp[splice]
   rw[e];exact h.2 hn
 · right;left
   rw[jv (by rw[hl,hS];omega),if_pos kU,Nat.sub_zero,om aS]
   decide
theorem SecA.sealed (hn:k<=n)(hl:all[n]?=some l)(h113:l.length<=113):fG (SecA kind k all n) (bT kind n l):=by
 intro S c hc hS h;have hsl:=js kind n l h113;refine⟨fun l q=>absurd q aS,fun _=>?_⟩;have hlc:((bT kind n l).take c).length=c:=by rw[aA];omega
 by_cases q:c=128
 · right
   refine⟨l,hl,?_⟩;rw[au aS,dV _ _ aS]
 · rcases h.2 hn with z | ⟨l',e,z⟩
   · left
     rw[jv aS,if_neg aS];exact z
   · right
     rw[hl] at e;injection e with e;subst e;refine⟨l,hl,?_⟩;rw[z];unfold splice;rw[List.take_zero,hlc,aB]
     show _ ++ _=_
     first
      | rw[List.nil_append,List.take_append_drop]
      | simp
theorem recB_kind {S:List UInt8}(hk:1<=kind)(h:recB S kind n=true):bw S 127≠0/\bw S 0≠0:=by
 unfold recB at h;rw[av] at h;obtain⟨k0,k1,_⟩:=mI h.1;constructor <;> omega
theorem SecJ.rec_ (h:SecJ kind k all n S)(h1:1<=kind)(hk:k<=all.length)(hr:recB S (kind:Int) n=true):∃ l,all[n]?=some l/\S=bT kind n l:=by
 rcases aw n k with q | q
 · exact⟨all[n]'aS,ap aS,h.1 _ q (ap aS)⟩
 · obtain⟨k1,k2⟩:=recB_kind aS hr;rcases h.2 q with e | e | e
   · exact absurd e k1
   · exact absurd e k2
   · exact e
end
section
variable {N:Secs} {f m kind k:Nat} {all:List (List UInt8)}
theorem first_not (R:Nat->Prop)(m:Nat):∃ nx,nx<=m/\(∀ n,n<nx->R n)/\(nx<m->¬ R nx):=by
 induction m with
 | zero=>exact⟨0,Nat.le_refl _,fun n q=>absurd q aS,fun q=>absurd q aS⟩
 | succ m ih=>
   obtain⟨nx,h1,h2,h3⟩:=ih
   by_cases q:nx=m
   · subst q
     by_cases hr:R nx
     · exact⟨nx+1,Nat.le_refl _,fun n q=>by rcases aw n nx with e | e;exact h2 n e;rw[show n=nx by omega];exact hr,fun q=>absurd q aS⟩
     · exact⟨nx,aS,h2,fun _=>hr⟩
   · exact⟨nx,aS,h2,fun _=>h3 aS⟩
theorem Jrn.rec_ (h:Jrn N f m kind all)(k1:1<=kind)(k2:kind<=255)(hm:m<=4096)(hn:all[n]?=some l):recS N f (kind:Int) n/\eZ (N (f+n))=l:=by
 have:=h.le;have hlt:=(List.getElem?_eq_some_iff.1 hn).1;exact seal_rec k1 k2 (h.len l (List.mem_of_getElem? hn)) aS (h.recs n l hn)
theorem found (hl:∀ l ∈ all,l.length<=113)(hk:k<=all.length)(ham:all.length<=m)(k1:1<=kind)(k2:kind<=255)(hm:m<=4096)(hj:∀ n,n<m->SecJ kind k all n (N (f+n))) :
 ∃ nx,k<=nx/\nx<=all.length/\nx<=m/\(∀ n,n<nx->recS N f (kind:Int) n)/\(nx<m->¬ recS N f (kind:Int) nx)/\Jrn (fA N f nx m) f m kind (all.take nx):=by
 obtain⟨nx,h1,h2,h3⟩:=first_not (fun n=>recS N f (kind:Int) n) m;have hrec:∀ n,n<nx->∃ l,all[n]?=some l/\N (f+n)=bT kind n l:=fun n q=>(hj n aS).rec_ k1 hk (h2 n q)
 have hle:nx<=all.length:=by
  rcases aH nx with q | q
  · omega
  · obtain⟨l,e,_⟩:=hrec (nx - 1) aS;have:=(List.getElem?_eq_some_iff.1 e).1;omega
 have hge:k<=nx:=by
  apply Classical.byContradiction;intro hlt;have e:all[nx]?=some (all[nx]'aS):=ap aS;exact h3 aS (seal_rec k1 k2 (hl _ (List.getElem_mem _)) aS ((hj nx aS).1 _ aS e)).1
 refine⟨nx,hge,hle,h1,h2,h3,by rw[aA];omega,fun l hm=>hl l (List.mem_of_mem_take hm),fun n l e=>?_,fun n q1 q2=>?_⟩
 · rw[aK] at e
   split at e
   · rename_i q;unfold fA;rw[if_neg aS];obtain⟨l',e1,e2⟩:=hrec n q;rw[e] at e1;injection e1 with e1;subst e1;exact e2
   · cases e
 · rw[aA] at q1;unfold fA;rw[if_pos aS]
theorem Jrn.secA (h:Jrn N f m kind all){more:List (List UInt8)}(hn:n<m):SecA kind all.length (all ++ more) n (N (f+n)):=by
 refine⟨fun l q e=>?_,fun q=>.inl ?_⟩
 · rw[aN q] at e;exact h.recs n l e
 · rw[h.zero n q hn];decide
theorem Pow.jadd {P:Says}(h:Pow D N P)(hfm:f+m<=D.many)(k1:1<=kind)(k2:kind<=255)(hn:k<m)(hl:l.length<=113)(hw:D.waits.length<1000000)(hs:fG (P (f+k)) (bT kind k l)) :
 (cP D f m (kind:Int) k l).1.many=D.many/\(cP D f m (kind:Int) k l).1.waits=D.waits ++ [(f+k,bT kind k l)] /\
 (((cP D f m (kind:Int) k l).2=(k+1,(k:Int),0)/\Pow (cP D f m (kind:Int) k l).1 (putN N (f+k) (bT kind k l)) P/\(D.cut=-1->(cP D f m (kind:Int) k l).1.cut=-1)) \/
   ((cP D f m (kind:Int) k l).2=(k,0,50)/\(cP D f m (kind:Int) k l).1.off=true/\D.cut≠-1/\Safe (cP D f m (kind:Int) k l).1 P)):=by
 have hm4:=h.fit.ok.many1;have hmk:fT (kind:Int) (k:Int) l=(bT kind k l,0):=by
  unfold fT;rw[if_neg aS,if_neg aS];simp
 obtain⟨a1,a2,a3⟩:=h.awrite hfm hn (js kind k l hl) hw hs;have hput:cL D f m (k:Int) (kind:Int) (k:Int) l=bJ D f m (k:Int) (bT kind k l):=by
  unfold cL;rw[hmk,if_neg ba]
 unfold cP;rw[if_neg aS,if_neg aS,hput];rcases a3 with ⟨b1,b2,b3⟩ | ⟨b1,b2,b3,b4⟩
 · rw[if_neg jd];exact⟨a1,a2,.inl ⟨rfl,b2,b3⟩⟩
 · rw[if_pos jd];exact⟨a1,a2,.inr ⟨by rw[b1],b2,b3,b4⟩⟩
theorem Jrn.put (h:Jrn N f m kind all)(hlt:all.length<m)(hl:l.length<=113):Jrn (putN N (f+all.length) (bT kind all.length l)) f m kind (all ++ [l]):=by
 refine⟨by rw[az,aJ];omega,fun l' hm=>?_,fun n l' e=>?_,fun n q1 q2=>?_⟩
 · rcases List.mem_append.1 hm with q | q
   · exact h.len l' q
   · rw[List.mem_singleton.1 q];exact hl
 · unfold putN;rcases aw n all.length with q | q
   · rw[if_neg aS];rw[aN q] at e;exact h.recs n l' e
   · rw[aI q] at e;have hn:n - all.length=0:=by
      apply Classical.byContradiction;intro hne;rw[aE cU] at e
      cases e
     rw[hn] at e;injection e with e;have hnn:n=all.length:=aS;subst hnn;rw[if_pos rfl,<- e]
 · rw[az,aJ] at q1;unfold putN;rw[if_neg aS];exact h.zero n aS q2
theorem Jrn.get (hoff:D.off=false)(hnow:∀ s:Nat,s<D.many->ch D.now (s:Int)=N s)(h:Jrn N f m kind all)(hfm:f+m<=D.many)(k1:1<=kind)(k2:kind<=255)(hm:m<=4096)(hn:all[n]?=some l) :
 fw D f m (kind:Int) all.length (n:Int)=(eb D,l,0):=by
 have hlt:=(List.getElem?_eq_some_iff.1 hn).1;obtain⟨r1,r2⟩:=h.rec_ k1 k2 hm hn;have hle:=h.le;have hsec:=hnow (f+n) aS;have:=get_fit (f:=f) (m:=m) (nx:=all.length) (n:=n) (kind:=(kind:Int)) hoff hfm hle hlt (by unfold recN;rw[hsec];exact r1);rw[this,hsec,r2]
theorem Jrn.congr {N':Secs}(h:Jrn N f m kind all)(e:∀ n,n<m->N' (f+n)=N (f+n)):Jrn N' f m kind all:=by
 have hle:=h.le;exact⟨h.le,h.len,fun n l q=>by rw[e n (by have:=(List.getElem?_eq_some_iff.1 q).1;omega)];exact h.recs n l q,fun n q1 q2=>by rw[e n q2];exact h.zero n q1 q2⟩
end
