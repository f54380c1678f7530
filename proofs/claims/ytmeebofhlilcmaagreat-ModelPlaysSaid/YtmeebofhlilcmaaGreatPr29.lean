/- Parts. -/
import Derived.Test.YtmeebofhlilcmaaGreatPr28
set_option linter.unusedVariables false
set_option linter.unusedSimpArgs false
set_option maxRecDepth 100000
set_option maxHeartbeats 0
namespace Go.Proofs.YtmeebofhlilcmaaGreat
variable {m k f kind n j:Nat} {alls:List (List UInt8)} {N:Secs} {D:aX}
open Go.RowKit
def jw (m k:Nat)(alls:List (List UInt8))(f kind:Nat)(N:Secs):Says:=fun s S=>if f<=s/\s<f+m then SecJ kind k alls (s - f) S else S=N s
theorem oN (h:n<m):jw m k alls f kind N (f+n)=SecJ kind k alls n:=by
 funext S
 unfold jw;rw[if_pos aS,show f+n - f=n by omega]
theorem feedP_out {S:List UInt8}(h:jw m k alls f kind N j S)(hj:j<f\/f+m<=j):S=N j:=by
 unfold jw at h
 rwa [if_neg aS] at h
theorem qd (h:∀ n,n<m->SecJ kind k alls n (N (f+n)))(j:Nat):jw m k alls f kind N j (N j):=by
 unfold jw
 split
 · rename_i q;have:=h (j - f) aS
   rwa [show f+(j - f)=j by omega] at this
 · rfl
theorem qe (hn:k<=n)(hm:n<m):fD (jw m k alls f kind N (f+n)) bw:=by
 rw[oN hm];exact SecJ.wiped hn
theorem kZ {nx:Nat}(h:j<f+nx\/f+m<=j):fx N f nx m j=N j:=by
 unfold fx;rw[if_neg aS]
section
variable {p:PV} {H m c:Nat} {pace ran:Int} {D D':aX} {rows all:List (List Int)} {N N':Secs} {k:Nat}
theorem Jrn.secJ {als:List (List UInt8)}(h:Jrn N f m kind als)(hj:j<=als.length)(hn:n<m):SecJ kind j als n (N (f+n)):=by
 have:=(h.secA (more:=[]) hn).j;rw[List.append_nil] at this;exact this.less hj aW
theorem Good.opened (G:Prg p H m pace)(h:Good p H m c pace k all ran N)(hr:Rest D N)(big:11+2 * m<=D.many)(hc:c<8000000000000000000) :
 ((fh m p (H:Int) pace D).2.2=0/\∃ nx,k<=nx/\nx<=all.length/\EgOn p H m (c+1) pace (fh m p (H:Int) pace D).1 (fh m p (H:Int) pace D).2.1 (all.take nx)/\(fh m p (H:Int) pace D).2.1.tick=(nx:Int)/\0<=(fh m p (H:Int) pace D).2.1.replayed/\(fh m p (H:Int) pace D).2.1.replayed<=pace+(nx:Int) - ran/\(fh m p (H:Int) pace D).1.many=D.many/\(D.cut=-1->(fh m p (H:Int) pace D).1.cut=-1)) \/
 ((fh m p (H:Int) pace D).2.2=50/\∃ k' nx,k<=k'/\k'<=nx/\nx<=all.length/\Went D (fh m p (H:Int) pace D).1 (Good p H m (c+1) pace k' (all.take nx) ran)):=by
 obtain⟨kS,s,n,last,is,r1,r2,r3,r4,r5,r6⟩:=h.rest;have hm1:=G.m1;have hm2:=G.m2;have hH:=G.h63;have hle:=h.le;have hfit:=h.fit;have htake:∀ nx,nx<=all.length->(all.take nx).length=nx:=fun nx q=>by rw[aA];omega
 have hrd:bN D 0 1 0=(dZ D,N 0,0):=by
  have:=kU (D:=D) (f:=0) (m:=1) (k:=0) hr.fit.off aS aS;rw[Nat.add_zero,hr.now 0 aS] at this;exact this
 have htk:cP D 0 1 0 1=((H:Int),[],0):=by
  obtain⟨o1,o2,o3⟩:=nO (kind:=1) (n:=H) (load:=[]) aS aS hH aZ;rw[show (1:Int).toNat=1 from rfl] at o1 o2 o3;unfold cP;rw[hrd,if_neg aZ]
  show eH (N 0) 1=_
  rw[h.root];unfold eH;rw[if_pos o1,o2,o3];unfold sg;rw[if_pos hH]
 have hopen:fh m p (H:Int) pace D=openF m p (H:Int) pace (bS (dZ D) 11 m 3 p.ins):=by
  unfold fh;rw[htk,hrd];unfold openO;rw[if_neg (by unfold jp;simp)]
 rw[hopen];have hr0:Rest (dZ D) N:=hr.ops _;have hf:=hr0.fopen (k:=k) (f:=11) (m:=m) (kind:=3) (ts:=p.ins) (rows:=all) (P:=jw m k (cG p.ins all) 11 3 N) G.ins (by show 11+m<=D.many;omega) aS aS aS h.rok hle hfit h.feed (fun j _=>qd h.feed j) (fun n q1 q2=>qe q1 q2);rw[show ((3:Nat):Int)=3 from rfl] at hf;obtain⟨a1,a2⟩:=hf;generalize bS (dZ D) 11 m 3 p.ins=F at *;have a1':F.1.many=D.many:=a1;unfold openF;rcases a2 with ⟨nx,b1,b2,b3,b4,b5,b6⟩ | ⟨b3,b4,b5,b6⟩;rotate_left 1
 · right
   rw[if_pos (by rw[b3];simp)];refine⟨by rw[b3],k,all.length,Nat.le_refl _,hle,Nat.le_refl _,b4,b5,a1',_,b6,fun N' hN=>?_⟩;rw[au aW];have ho:∀ j:Nat,j<11+2 * m->(j<11\/11+m<=j)->N' j=N j:=fun j hj q=>feedP_out (hN j (by show j<F.1.many;omega)) q
   refine⟨by rw[ho 0 aS aS];exact h.root,h.rok,hle,hfit,fun j hj=>?_,kS,s,n,last,is,r1,fun j hj=>?_,r3.congr (fun j j1 j2=>ho j aS aS),aS,r5,r6⟩
   · have:=hN (11+j) (by show 11+j<F.1.many;omega)
     rwa [oN hj] at this
   · rw[ho (11+m+j) aS aS];exact r2 j hj
 rw[if_neg (by rw[b3];simp)];have hlx:=htake nx b2;have hks2:=r1;have hj2:∀ j,j<m->SecJ 4 kS (cG p.outs (cq p all k)) j (fx N 11 nx m (11+m+j)):=fun j hj=>by rw[kZ aS];exact r2 j hj
 have hs:=b4.fopen (k:=kS) (f:=11+m) (m:=m) (kind:=4) (ts:=p.outs) (rows:=cq p all k) (P:=jw m kS (cG p.outs (cq p all k)) (11+m) 4 (fx N 11 nx m)) G.outs (by rw[a1'];omega) aS aS aS (outs_ok G h.rok hle) (by rw[iN];exact r1) (by rw[iN];omega) hj2 (fun j _=>qd hj2 j) (fun n q1 q2=>qe q1 q2);rw[show ((4:Nat):Int)=4 from rfl] at hs;obtain⟨c1,c2⟩:=hs;have hF21:F.2.1=nx:=by rw[b3]
 unfold openS;rw[hF21];generalize bS F.1 (11+m) m 4 p.outs=S at *;have hroot1:fx N 11 nx m 0=bU 1 H []:=by rw[kZ aS];exact h.root
 rcases c2 with ⟨nx2,d1,d2,d3,d4,d5,d6⟩ | ⟨d3,d4,d5,d6⟩;rotate_left 1
 · right
   rw[if_pos (by rw[d3];simp)];refine⟨by rw[d3],k,nx,Nat.le_refl _,b1,b2,d4,fun q=>d5 (b6 q),c1.trans a1',_,d6,fun N' hN=>?_⟩;have hSm:=c1.trans a1';have ho:∀ j:Nat,j<11+m->N' j=fx N 11 nx m j:=fun j hj=>feedP_out (hN j (by show j<S.1.many;omega)) aS
   refine⟨by rw[ho 0 aS];exact hroot1,h.rok.take_ nx,by rw[hlx];exact b1,by rw[hlx];omega,fun j hj=>?_,kS,s,n,last,is,r1,fun j hj=>?_,r3.congr (fun j j1 j2=>by rw[ho j aS,kZ aS]),aS,fun e=>⟨?_,(r5 e).2⟩,r6⟩
   · rw[ho (11+j) aS];exact b5.secJ (by rw[fK,hlx];exact b1) hj
   · have:=hN (11+m+j) (by show 11+m+j<S.1.many;omega);rw[oN hj] at this;have e:cq p all k=cq p (all.take nx) k:=by
      conv=>lhs;rw[<- List.take_append_drop nx all]
      exact mP _ (by rw[hlx];exact b1)
     rwa [e] at this
   · rw[(r5 e).1]
     conv=>lhs;rw[<- List.take_append_drop nx all]
     exact kx _ _ (by rw[hlx];have:=(r5 e).2.2;omega)
 rw[if_neg (by rw[d3];simp)];rw[iN] at d2;have hS21:S.2.1=nx2:=by rw[d3]
 rw[hS21];have hN2:∀ j:Nat,j<11->fx (fx N 11 nx m) (11+m) nx2 m j=N j:=fun j hj=>by rw[kZ aS,kZ aS]
 have hSm:=c1.trans a1';have kp2:=r3.congr (fun j j1 j2=>hN2 j aS);obtain⟨o,hk⟩:=kp2.open_ d4 aS G.hv;rw[hk];unfold openK;rw[if_neg aZ];simp only;have hbt:de p (all.take nx) 0=fq p:=rfl;have hE:eR p nx nx2 (kOf (H:Int) s n last is)=⟨nx,nx2,kOf (H:Int) s n last is,de p (all.take nx) (dE n last).toNat,dE n last,0,0,false,false⟩:=by
  unfold eR kOf dE;rcases aI n with q | q
  · subst q;rfl
  · have hnz:n≠0:=aS;have hc2:is=de p (all.take nx) last.toNat:=by
     rw[(r5 q).1]
     conv=>lhs;rw[<- List.take_append_drop nx all]
     exact kx _ _ (by rw[hlx];have:=(r5 q).2.2;omega)
    simp only[if_neg hnz,am q,if_true];rw[<- hc2]
 have hsv0:0<=dE n last/\dE n last<=(kS:Int):=by
  unfold dE
  split
  · omega
  · have:=r5 aS;omega
 rw[hE];have hnb:¬ ic ⟨nx,nx2,kOf (H:Int) s n last is,de p (all.take nx) (dE n last).toNat,dE n last,0,0,false,false⟩:=fun q=>by
  unfold ic at q;simp only at q;omega
 rw[if_neg hnb];have hsink:Jrn (fx (fx N 11 nx m) (11+m) nx2 m) (11+m) m 4 (cG p.outs (cq p (all.take nx) nx2)):=by
  rw[mQ p all d2] at d5;have e:cq p all nx2=cq p (all.take nx) nx2:=by
   conv=>lhs;rw[<- List.take_append_drop nx all]
   exact mP _ (by rw[hlx];omega)
  rwa [e] at d5
 have hmid:Mid p H m c { S.1 with ops:=o } ⟨nx,nx2,kOf (H:Int) s n last is,de p (all.take nx) (dE n last).toNat,dE n last,0,0,false,false⟩ (all.take nx) (fx (fx N 11 nx m) (11+m) nx2 m) nx2 s n last is :=
  Mid.ofRest (d4.ops o) (by show 11+2 * m<=S.1.many;omega) (by rw[hN2 0 aS];exact h.root) (b5.congr (fun j hj=>by rw[kZ aS])) (h.rok.take_ nx) hsink kp2
   (fun q=>⟨by
    rw[(r5 q).1]
    conv=>lhs;rw[<- List.take_append_drop nx all]
    exact kx _ _ (by rw[hlx];have:=(r5 q).2.2;omega),(r5 q).2.1,by show last<=(nx2:Int);have:=(r5 q).2.2;omega⟩) r4 rfl hlx.symm (by rw[hlx];show nx2<=nx;omega) hsv0.1 (by show dE n last<=(nx2:Int);omega) rfl (Int.le_refl _) hsv0.1 (by show dE n last<=dE n last+0;omega) (Int.le_refl _) rfl
 rcases hmid.replay G aS rfl r6 with ⟨e1,e2,e3,e4,e5,e6⟩ | ⟨e1,e2⟩
 · left
   rw[if_neg iP];rw[hlx] at e3 e4;exact⟨e1,nx,b1,b2,e2,e3,by rw[e4];show 0<=(0:Int)+((nx:Int) - dE n last);omega,by rw[e4];show (0:Int)+((nx:Int) - dE n last)<=_;omega,e5.trans hSm,fun q=>e6 (d6 (b6 q))⟩
 · right
   rw[if_pos iP];refine⟨e1,nx,nx,b1,Nat.le_refl _,b2,?_⟩;rw[hlx] at e2;exact e2.trans (D:=D) (fun q=>d6 (b6 q)) hSm
end
def anyP:Says:=fun _ _=>True
theorem shut_any (n:Nat)(b:List UInt8):fD (anyP n) b:=fun _ _ _ _ _=>trivial
theorem mem_dirtyL (now:List UInt8)(f a:Nat):∀ (k:Nat) (z:Int),z ∈ ee now f a k ↔ ∃ j:Nat,z=((a+j:Nat):Int)/\j<k/\ch now ((f+(a+j):Nat):Int)≠bw:=by
 intro k
 induction k with
 | zero=>intro z;exact⟨(fun h=>by unfold ee at h;cases h),(fun ⟨j,_,h,_⟩=>absurd h aS)⟩
 | succ k ih=>
   intro z;unfold ee
   split
   · rename_i q;rw[ih];constructor
     · rintro ⟨j,h1,h2,h3⟩;exact⟨j,h1,aS,h3⟩
     · rintro ⟨j,h1,h2,h3⟩;rcases ay j k with q2 | q2
       · exact⟨j,h1,q2,h3⟩
       · have:j=k:=aS;subst this;exact absurd q h3
   · rename_i q;rw[List.mem_append,ih,List.mem_singleton];constructor
     · rintro (⟨j,h1,h2,h3⟩ | rfl)
       · exact⟨j,h1,aS,h3⟩
       · exact⟨k,rfl,aS,q⟩
     · rintro ⟨j,h1,h2,h3⟩;rcases ay j k with q2 | q2
       · exact .inl ⟨j,h1,q2,h3⟩
       · have:j=k:=aS;subst this;exact .inr h1
theorem dirtyL_len2 (now:List UInt8)(f a:Nat):∀ k,(ee now f a k).length<=k:=by
 intro k
 induction k with
 | zero=>exact Nat.le_refl _
 | succ k ih=>
   unfold ee
   split
   · omega
   · rw[aw,aJ];omega
theorem Pow.wipes :∀ (l:List Int) {D:aX} {N:Secs},Pow D N anyP->f+m<=D.many->(∀ x ∈ l,∃ n:Nat,x=(n:Int)/\n<m)->D.waits.length+l.length<1000000 ->
 (dL D f m l).1.many=D.many/\(((dL D f m l).2=0/\(∃ N',Pow (dL D f m l).1 N' anyP/\∀ k,k<D.many->N' k=if f<=k/\((k:Int) - f) ∈ l then bw else N k)/\(D.cut=-1->(dL D f m l).1.cut=-1)) \/
  ((dL D f m l).2=50/\(dL D f m l).1.off=true/\D.cut≠-1/\Safe (dL D f m l).1 anyP)):=by
 intro l
 induction l with
 | nil=>intro D N h _ _ _;exact⟨rfl,.inl ⟨rfl,⟨N,h,fun k _=>by rw[if_neg aZ]⟩,fun q=>q⟩⟩
 | cons x l ih=>
   intro D N h hfm hl hw;obtain⟨n,rfl,hn⟩:=hl x (aC ..);simp only[aF] at hw;obtain⟨a1,a2,a3⟩:=h.awrite hfm hn dI aS (shut_any _ _);rcases a3 with ⟨b1,b2,b3⟩ | ⟨b1,b2,b3,b4⟩
   · rw[lG b1];obtain⟨c1,c2⟩:=ih b2 (by rw[a1];exact hfm) (fun y hy=>hl y (aB _ hy)) (by rw[a2,aw,aJ];omega);refine⟨c1.trans a1,?_⟩;rcases c2 with ⟨d1,⟨N',d2,d3⟩,d4⟩ | ⟨d1,d2,d3,d4⟩
     · refine .inl ⟨d1,⟨N',d2,fun k hk=>?_⟩,fun q=>d4 (b3 q)⟩;rw[d3 k aS];unfold putN
       by_cases e:k=f+n
       · subst e;rw[if_pos rfl,if_pos (c:=f<=f+n/\(((f+n:Nat):Int) - f) ∈ (n:Int) :: l) ⟨aS,by rw[List.mem_cons];exact .inl aS⟩]
         split <;> rfl
       · rw[if_neg e]
         by_cases e2:f<=k/\((k:Int) - f) ∈ l
         · rw[if_pos e2,if_pos ⟨e2.1,aB _ e2.2⟩]
         · rw[if_neg e2,if_neg (fun q=>e2 ⟨q.1,by rcases List.mem_cons.1 q.2 with r | r;exact absurd r aS;exact r⟩)]
     · exact .inr ⟨d1,d2,fun q=>d3 (b3 q),d4⟩
   · rw[lH iQ];exact⟨a1,.inr ⟨b1,b2,b3,b4⟩⟩
theorem Rest.wiped (h:Rest D N){a:Nat}(hfm:f+m<=D.many)(han:a+n<=m) :
 (cQ D f m a n).1.many=D.many/\(((cQ D f m a n).2=0/\(∃ N',Rest (cQ D f m a n).1 N'/\∀ k,k<D.many->N' k=if f+a<=k/\k<f+(a+n) then bw else N k)/\(D.cut=-1->(cQ D f m a n).1.cut=-1)) \/
  ((cQ D f m a n).2=50/\(cQ D f m a n).1.off=true/\D.cut≠-1/\Safe (cQ D f m a n).1 anyP)):=by
 have hm4:=h.fit.ok.many1;have hun:cQ D f m a n=wipeW (ee D.now f a n) (dL (rdK D n) f m (ee D.now f a n)):=by
  unfold cQ;rw[if_neg (by rw[h.fit.off];simp)]
 have hmem:=mem_dirtyL D.now f a n;have hle:=dirtyL_len2 D.now f a n;rw[hun];obtain⟨o,eo⟩:=gO D n;rw[eo];have hp:Pow D N anyP:=h.pow (fun _ _=>trivial);obtain⟨c1,c2⟩:=Pow.wipes (f:=f) (m:=m) (ee D.now f a n) (hp.ops o) hfm (fun x hx=>by
  obtain⟨j,h1,h2,_⟩:=(hmem x).1 hx;exact⟨a+j,h1,aS⟩) (by show D.waits.length+_<_;rw[h.waits];simp;omega)
 have hN:∀ (N':Secs),(∀ k,k<D.many->N' k=if f<=k/\((k:Int) - f) ∈ ee D.now f a n then bw else N k)->∀ k,k<D.many->N' k=if f+a<=k/\k<f+(a+n) then bw else N k:=fun N' hN k hk=>by
  rw[hN k hk]
  by_cases q:f<=k/\((k:Int) - f) ∈ ee D.now f a n
  · obtain⟨j,h1,h2,_⟩:=(hmem _).1 q.2;rw[if_pos q,if_pos aS]
  · rw[if_neg q]
    split
    · rename_i q2
      by_cases q3:N k=bw
      · exact q3
      · refine absurd ⟨aS,(hmem _).2 ⟨k - f - a,aS,by omega,?_⟩⟩ q;rw[show f+(a+(k - f - a))=k by omega,h.now k hk];exact q3
    · rfl
 generalize hW:dL { D with ops:=o } f m (ee D.now f a n)=W at *;have c1':W.1.many=D.many:=c1;rcases c2 with ⟨d1,⟨N',d2,d3⟩,d4⟩ | ⟨d1,d2,d3,d4⟩
 · unfold wipeW;rw[if_neg jA]
   split
   · rename_i hd;rw[hd] at hW;have hW2:W.1={ D with ops:=o }:=by rw[<- hW];rfl
     exact⟨c1',.inl ⟨rfl,⟨N',Rest.of_pow d2 (by show W.1.waits=[];rw[hW2];exact h.waits),hN N' d3⟩,d4⟩⟩
   · obtain⟨e1,e2⟩:=d2.flush;refine⟨e1.trans c1',?_⟩;rcases e2 with ⟨e2,e3,e4⟩ | ⟨e2,e3,e4,e5⟩
     · exact .inl ⟨e2,⟨N',e3,hN N' d3⟩,fun q=>e4 (d4 q)⟩
     · exact .inr ⟨e2,e3,fun q=>e4 (d4 q),e5⟩
 · unfold wipeW;rw[if_pos jA];exact⟨c1',.inr ⟨d1,d2,d3,d4⟩⟩
theorem Pow.aput {P:Says}(h:Pow D N P){num:Nat}(hfm:f+m<=D.many)(k1:1<=kind)(k2:kind<=255)(hn:n<m){l:List UInt8}(hl:l.length<=113)(hw:D.waits.length<1000000)(hs:fD (P (f+n)) (bU kind num l)) :
 (cI D f m (n:Int) (kind:Int) (num:Int) l).1.many=D.many /\
 (((cI D f m (n:Int) (kind:Int) (num:Int) l).2=0/\Pow (cI D f m (n:Int) (kind:Int) (num:Int) l).1 (putN N (f+n) (bU kind num l)) P/\(D.cut=-1->(cI D f m (n:Int) (kind:Int) (num:Int) l).1.cut=-1)) \/
   ((cI D f m (n:Int) (kind:Int) (num:Int) l).2=50/\(cI D f m (n:Int) (kind:Int) (num:Int) l).1.off=true/\D.cut≠-1/\Safe (cI D f m (n:Int) (kind:Int) (num:Int) l).1 P)):=by
 have hmk:fO (kind:Int) (num:Int) l=(bU kind num l,0):=by
  unfold fO;rw[if_neg aS,if_neg aS];simp
 obtain⟨a1,a2,a3⟩:=h.awrite hfm hn (jh kind num l hl) hw hs;have hput:cI D f m (n:Int) (kind:Int) (num:Int) l=bK D f m (n:Int) (bU kind num l):=by
  unfold cI;rw[hmk,if_neg aZ]
 rw[hput];exact⟨a1,a3⟩
theorem Rest.formatted (h:Rest D N){M H:Nat}(hM:2<=M)(hMm:M<=D.many) :
 (iq M (H:Int) D).1.many=D.many/\(((iq M (H:Int) D).2=0/\(∃ N',Rest (iq M (H:Int) D).1 N'/\N' 0=bU 1 H []/\∀ k,1<=k->k<M->N' k=bw)/\(D.cut=-1->(iq M (H:Int) D).1.cut=-1)) \/
  ((iq M (H:Int) D).2=50/\(iq M (H:Int) D).1.off=true/\D.cut≠-1/\Safe (iq M (H:Int) D).1 anyP)):=by
 obtain⟨a1,a2⟩:=h.wiped (f:=0) (m:=M) (a:=0) (n:=1) aS aS;unfold iq;generalize cQ D 0 M 0 1=W1 at *;unfold formB;rcases a2 with ⟨b1,⟨N1,b2,b3⟩,b4⟩ | ⟨b1,b2,b3,b4⟩
 · rw[if_neg iQ];obtain⟨c1,c2⟩:=b2.wiped (f:=0) (m:=M) (a:=1) (n:=M - 1) aS aS;generalize cQ W1.1 0 M 1 (M - 1)=W2 at *;unfold formC;rcases c2 with ⟨d1,⟨N2,d2,d3⟩,d4⟩ | ⟨d1,d2,d3,d4⟩
   · rw[if_neg jA];obtain⟨e1,e2⟩:=(d2.pow (P:=anyP) (fun _ _=>trivial)).aput (f:=0) (m:=M) (n:=0) (kind:=1) (num:=H) (l:=[]) aS aS aS aS aZ (by rw[d2.waits];simp) (shut_any _ _);have e2':_:=e2;generalize hW3:cI W2.1 0 M 0 1 (H:Int) []=W3;have hW3':cI W2.1 0 M ((0:Nat):Int) ((1:Nat):Int) (H:Int) []=W3:=hW3;rw[hW3'] at e1 e2;unfold formD;rcases e2 with ⟨f1,f2,f3⟩ | ⟨f1,f2,f3,f4⟩
     · rw[if_neg (by rw[f1];simp)];obtain⟨g1,g2⟩:=f2.flush;refine⟨aS,?_⟩;rcases g2 with ⟨g2,g3,g4⟩ | ⟨g2,g3,g4,g5⟩
       · refine .inl ⟨g2,⟨_,g3,?_,fun k k1 k2=>?_⟩,fun q=>g4 (f3 (d4 (b4 q)))⟩
         · unfold putN;rw[if_pos rfl]
         · unfold putN;rw[if_neg aS,d3 k aS,if_pos aS]
       · exact .inr ⟨g2,g3,fun q=>g4 (f3 (d4 (b4 q))),g5⟩
     · rw[if_pos (by rw[f1];simp)];exact⟨aS,.inr ⟨f1,f2,fun q=>f3 (d4 (b4 q)),f4⟩⟩
   · rw[if_pos jA];exact⟨aS,.inr ⟨d1,d2,fun q=>d3 (b4 q),d4⟩⟩
 · rw[if_pos iQ];exact⟨a1,.inr ⟨b1,b2,b3,b4⟩⟩
theorem good_new {p:PV}{H:Nat}{pace:Int}(hp:1<=pace)(root:N 0=bU 1 H [])(hz:∀ k,1<=k->k<11+m+m->N k=bw):Good p H m 0 pace 0 [] 0 N:=by
 have hsl:∀ f,1<=f->f<11+m+m->(ed N f).2.2=53:=fun f h1 h2=>mq (n7 (by rw[hz f h1 h2];decide))
 refine⟨root,⟨fun x hx=>absurd hx aZ,fun x hx=>absurd hx aZ⟩,Nat.le_refl _,Nat.zero_le _,fun n hn=>?_,0,⟨2,0,[]⟩,0,-1,[],Nat.le_refl _,fun n hn=>?_,?_,Nat.le_refl _,fun q=>absurd q aS,?_⟩
 · rw[hz (11+n) aS aS];exact⟨fun l q=>absurd q aS,fun _=>.inl aU⟩
 · rw[hz (11+m+n) aS aS];exact⟨fun l q=>absurd q aS,fun _=>.inl aU⟩
 · exact⟨⟨rfl,fun _=>⟨rfl,hsl 1 aS aS,hsl 6 aS aS⟩,fun q=>absurd q aS⟩,fun _=>⟨rfl,rfl⟩,fun q=>absurd q aS⟩
 · show (0:Int)<=dE 0 (-1)+pace
   unfold dE;rw[if_pos rfl];omega
structure eS (m:Nat)(p:PV)(D D':aX)(E E':EgV)(more:Nat):Prop where
 ok:EgOk m p E'
 many:D'.many=D.many
 waits:D'.waits.length<=D.waits.length+more
 rep:E'.replayed=E.replayed
 io:E.nOut<=E.nIn->E'.nOut<=E.nIn
 nin:E'.nIn=E.nIn
section
variable {m:Nat} {p:PV} {D D1 D2:aX} {E E1 E2:EgV} {hash pace:Int} {a b:Nat}
theorem eS.refl (ok:EgOk m p E):eS m p D D E E 0:=⟨ok,rfl,Nat.le_refl _,rfl,fun h=>h,rfl⟩
theorem eS.trans (h:eS m p D D1 E E1 a)(k:eS m p D1 D2 E1 E2 b):eS m p D D2 E E2 (a+b) :=
 ⟨k.ok,k.many.trans h.many,by have:=h.waits;have:=k.waits;omega,k.rep.trans h.rep,fun q=>by have:=k.io (by rw[h.nin];exact h.io q);rw[h.nin] at this;exact this,k.nin.trans h.nin⟩
theorem eS.mono (h:eS m p D D1 E E1 a)(hab:a<=b):eS m p D D1 E E1 b:=⟨h.ok,h.many,by have:=h.waits;omega,h.rep,h.io,h.nin⟩
theorem EgOk.told (h:EgOk m p E)(z:Int):EgOk m p (fy E z):=⟨h.i0,h.o0,h.t0,h.t1,h.p0,h.p1,h.r0,h.r1,h.cf,h.c64,h.kl,h.kn⟩
theorem eS.told (h:eS m p D D1 E E1 a)(z:Int):eS m p D D1 E (fy E1 z) a:=⟨h.ok.told z,h.many,h.waits,h.rep,h.io,h.nin⟩
theorem jAddV_or (D:aX)(f m:Nat)(kind:Int)(next:Nat)(l:List UInt8):(cO D f m kind next l).2.1=next\/(cO D f m kind next l).2.1=next+1:=by
 unfold cO
 split
 · exact .inl rfl
 split
 · exact .inl rfl
 split
 · exact .inl rfl
 · exact .inr rfl
theorem sPutV_or (D:aX)(f m:Nat)(kind:Int)(next:Nat)(ts:List Int)(n:Int)(l:List Int):(ff D f m kind next ts n l).2.1=next\/((ff D f m kind next ts n l).2.1=next+1/\n=(next:Int)):=by
 unfold ff
 split
 · exact .inl rfl
 rename_i q1
 split
 · exact .inl rfl
 split
 · exact .inl rfl
 rename_i q3;have hn:n=(next:Int):=aS;have h:=jAddV_or D f m kind next (rowB ts l ts.length)
 split
 · rcases h with h | h
   · exact .inl h
   · exact .inr ⟨h,hn⟩
 · rcases h with h | h
   · exact .inl h
   · exact .inr ⟨h,hn⟩
theorem eone_out (m:Nat)(p:PV)(D:aX)(E:EgV):(bL m p D E).2.1.nOut=E.nOut\/((bL m p D E).2.1.nOut=E.nOut+1/\E.tick=(E.nOut:Int)):=by
 unfold bL iJ
 split
 · exact .inl rfl
 unfold eOneB
 split
 · exact .inl rfl
 have h:=sPutV_or (dm D 11 m 3 E.nIn p.ins E.tick).1 (11+m) m 4 E.nOut p.outs E.tick (eQ p E.cells (dm D 11 m 3 E.nIn p.ins E.tick).2.1).2.1;unfold gQ
 split <;> exact h
theorem eone_pub (ok:EgOk m p E)(G:PrgW p m)(ht:E.tick<(E.nIn:Int)):eS m p D (bL m p D E).1 E (bL m p D E).2.1 1:=by
 have h:=lN (D:=D) ok G ht;have ho:=eone_out m p D E;exact⟨h.ok,h.many,h.waits,h.rep,fun q=>by omega,h.nin⟩
theorem eflush_pub (ok:EgOk m p E):eS m p D (cU D E).1 E (cU D E).2.1 0:=by
 have h:=oI (D:=D) ok;have ho:(cU D E).2.1.nOut=E.nOut:=by
  unfold cU
  split
  · rfl
  · rfl
 exact⟨h.ok,h.many,h.waits,h.rep,fun q=>by rw[ho];exact q,h.nin⟩
theorem esave_out (p:PV)(hash:Int)(D:aX)(E:EgV):(dr p hash D E).2.1.nOut=E.nOut:=by
 unfold dr iX
 split
 · rfl
 unfold iW
 split <;> rfl
theorem esave_pub (ok:EgOk m p E):eS m p D (dr p hash D E).1 E (dr p hash D E).2.1 6:=by
 have h:=mM (D:=D) (hash:=hash) ok;have ho:=esave_out p hash D E;exact⟨h.ok,h.many,h.waits,h.rep,fun q=>by rw[ho];exact q,h.nin⟩
theorem runT_pub {R:aX × EgV × Int}(ok:EgOk m p R.2.1):eS m p R.1 (runT p hash pace R).1 R.2.1 (runT p hash pace R).2.1 6/\(runT p hash pace R).2.1.tick=R.2.1.tick:=by
 unfold runT
 split
 · exact⟨esave_pub ok,(mM (D:=R.1) (hash:=hash) ok).tick⟩
 · exact⟨(eS.refl ok).mono aS,rfl⟩
theorem runK_pub (G:PrgW p m)(most:Int):∀ (f k:Nat) {D:aX} {E:EgV},EgOk m p E->E.tick+(f:Int)=(E.nIn:Int)->eS m p D (runK m p hash pace most f k D E).1 E (runK m p hash pace most f k D E).2.1 (7 * f):=by
 intro f
 induction f with
 | zero=>intro k D E ok _;exact eS.refl ok
 | succ f ih=>
   intro k D E ok ht;unfold runK
   by_cases q1:most<=(k:Int)
   · rw[if_pos q1];exact (eS.refl ok).mono aS
   rw[if_neg q1];have h1:=eone_pub (D:=D) ok G aS;have h1k:=lN (D:=D) ok G aS;generalize bL m p D E=R at *
   by_cases q2:R.2.2≠0
   · rw[if_pos q2];exact h1.mono aS
   rw[if_neg q2];have hgo:=h1k.go (by simpa using q2);obtain⟨h2,h2t⟩:=runT_pub (hash:=hash) (pace:=pace) (R:=R) h1.ok;generalize runT p hash pace R=T at *
   by_cases q3:T.2.2≠0
   · rw[if_pos q3];exact (h1.trans h2).mono aS
   rw[if_neg q3];have h3:=ih (k+1) (D:=T.1) h2.ok (by have:=h2.nin;have:=h1.nin;omega);exact ((h1.trans h2).trans h3).mono aS
theorem runE_pub (G:PrgW p m)(most:Int)(ok:EgOk m p E):eS m p D (runE m p hash pace most D E).1 E (runE m p hash pace most D E).2.1 (7 * m):=by
 have:=ok.i0;have:=ok.t0;have:=ok.t1;unfold runE
 split
 · exact (eS.refl ok).mono aS
 split
 · exact (eS.refl ok).mono aS
 have h1:=runK_pub (D:=D) (hash:=hash) (pace:=pace) G most ((E.nIn:Int) - E.tick).toNat 0 ok aS;generalize runK m p hash pace most ((E.nIn:Int) - E.tick).toNat 0 D E=R at *;have h2:=eflush_pub (D:=R.1) h1.ok;unfold runA;generalize cU R.1 R.2.1=F at *;unfold runB;exact ((h1.trans h2).told _).mono aS
theorem saveE_pub (ok:EgOk m p E):eS m p D (fg p hash D E).1 E (fg p hash D E).2.1 6:=by
 unfold fg
 split
 · exact (eS.refl ok).mono aS
 unfold saveB;exact (esave_pub ok).told _
theorem sub_unfit {l:List Int}(hoff:E.off=false)(h:cx p.ins l=false):(subE m p D E l).2.2=(0,41):=by
 unfold subE;rw[if_neg (by rw[hoff];simp)];have:dY D 11 m 3 E.nIn p.ins l=(D,E.nIn,0,41):=by
  unfold dY cE;rw[if_pos h,if_pos aZ]
 rw[this]
 rfl
theorem subE_off {l:List Int}(h:E.off=true):subE m p D E l=(D,E,0,50):=by unfold subE;rw[if_pos h]
theorem saveE_off (h:E.off=true):fg p hash D E=(D,E,50):=by unfold fg;rw[if_pos h]
end
section
variable {w w':World} {base g m:Nat} {q:bE} {D:aX} {e:EP} {p:PV} {hash pace:Int} {E:EgV}
theorem oO (w:World):Ca 122 #[.pointer none] w fun e' w'=>e'=.returned (I 1)/\w=w':=by
 go_enter Tryz.func122,Tryz.ntmps122;go_wp2;go_ret;exact⟨rfl,rfl⟩
theorem mT (h:cF w base q g e m p hash pace E):Ca 122 #[.pointer (some ⟨g,0,none⟩)] w fun e' w'=>e'=.returned (I (if E.off=true then 50 else 0))/\w=w':=by
 obtain⟨c0,c1,c2,c3,c4,c5,c6,c7,c8,c9,c10⟩:=h.words;clear h
 cases ho:E.off with
 | false=>
   rw[ho] at c10;rw[if_neg aZ];go_enter Tryz.func122,Tryz.ntmps122;go_wp2;go_ret;exact⟨rfl,rfl⟩
 | true=>
   rw[ho] at c10;rw[if_pos rfl];go_enter Tryz.func122,Tryz.ntmps122;go_wp2;go_ret;exact⟨rfl,rfl⟩
theorem jL (h:cF w base q g e m p hash pace E)(hd:be w base q D)(hs:base<=w.heap.size)(z:Int):Ca 124 #[.pointer (some ⟨g,0,none⟩),I z] w fun e' w'=>e'=.returned (I z)/\EngS w w' base q g e m p hash pace D (fy E z):=by
 have X4:=EngX.of h hd (Step.refl mutE base q w) hs;obtain⟨c0,c1,c2,c3,c4,c5,c6,c7,c8,c9,c10⟩:=h.words;have f10:=h.b.frozen 10;have gl:=h.b.lt;have HX:=aT X4;clear X4 h hd;unfold fy
 cases ho:E.off with
 | true=>
   rw[ho] at c10;go_enter Tryz.func124,Tryz.ntmps124;go_wp2_with fail;go_ret;exact⟨rfl,EngX.done (E:={ E with off:=true || decide (z=50) }) (HX.out.set 10 (.bool true)) rfl⟩
 | false=>
   rw[ho] at c10
   by_cases hz:z=50
   · subst hz;go_enter Tryz.func124,Tryz.ntmps124;go_wp2_with fail;go_ret;exact⟨rfl,EngX.done (E:={ E with off:=false || decide ((50:Int)=50) }) (HX.out.set 10 (.bool true)) rfl⟩
   · have hzb:(z == 50)=false:=by rw[af];exact hz
     have hzd:=aj hz;rw[hzd];clear hz hzd;go_enter Tryz.func124,Tryz.ntmps124;go_wp2_with fail;go_ret;exact⟨rfl,EngX.done (E:={ E with off:=false || false }) (HX.out.set 10 (.bool false)) rfl⟩
theorem qf (h:cF w base q g e m p hash pace E)(ok:EgOk m p E)(G:PrgW p m)(hd:be w base q D)(hs:base<=w.heap.size)(big:11+2 * m<=D.many)(hwt:D.waits.length<800000)(B:Option Addr)(k d:Nat)(l:List Int)(hl:RI w B k l)(hk:k<=maxLen)(hi:eN l) :
 Ca 31 #[.pointer (some ⟨g,0,none⟩),.slice B k d] w fun e' w'=>e'=.returned (.tuple #[I (subE m p D E l).2.2.1,I (subE m p D E l).2.2.2])/\EngS w w' base q g e m p hash pace (subE m p D E l).1 (subE m p D E l).2.1:=by
 have hrd:=mT h;obtain⟨c0,c1,c2,c3,c4,c5,c6,c7,c8,c9,c10⟩:=h.words;have X1:=EngX.of h hd (Step.refl mutE base q w) hs;have HX1:=aT X1;have hadd:=fdaddO_any X1.r.inn X1.d X1.hs X1.r.al aS (by have:=G.m2;omega) ok.i0 aS G.ins B k d hl hk hi;clear X1 h hd hl hi
 cases ho:E.off with
 | true=>
   have hun:subE m p D E l=(D,E,0,50):=by unfold subE;rw[if_pos ho]
   rw[hun];rw[ho,if_pos rfl] at hrd;clear hun;go_enter Tryz.func31,Tryz.ntmps31;go_wp2_with (first | (go_at_call 122;(with_reducible refine (hrd).mono ?_);rintro e' w2 ⟨rfl,rfl⟩) | fail);go_ret2;exact⟨rfl,HX1.out.done rfl⟩
 | false=>
   have hun:subE m p D E l=subB E (dY D 11 m 3 E.nIn p.ins l):=by unfold subE;rw[if_neg (by rw[ho];simp)]
   rw[hun];rw[ho,if_neg aZ] at hrd;clear hun;generalize dY D 11 m 3 E.nIn p.ins l=R at *;obtain⟨D1,n1,v1,z1⟩:=R;simp only at hadd;unfold subB;simp only;have htl:=fun (W:World) (X:EngX w W base q g (engC e pace E) e m p hash D1 n1 E.nOut E.k E.cells)=>jL (hash:=hash) (pace:=pace) (E:={ E with nIn:=n1 }) (EngX.done X rfl).i X.d X.hs z1
   go_enter Tryz.func31,Tryz.ntmps31;go_wp2_with (first | (go_at_call 122;(with_reducible refine (hrd).mono ?_);rintro e' w2 ⟨rfl,rfl⟩) | ((go_at_call 123;(with_reducible refine (hadd).mono ?_);rintro e' w4 ⟨rfl,d4,j4,s4,q4⟩);have X4:=aT (HX1.out.stepF d4 s4 q4 j4);have htl4:=htl w4 X4.out) | ((go_at_call 124;(with_reducible refine (htl4).mono ?_);rintro e' w5 ⟨rfl,s5⟩);have X5:=aT s5;clear s5) | fail);go_ret2;exact⟨rfl,X5.out.d,X5.out.i,X4.out.s.trans X5.out.s⟩
theorem saveE_any (h:cF w base q g e m p hash pace E)(ok:EgOk m p E)(G:PrgW p m)(hd:be w base q D)(hs:base<=w.heap.size)(big:11+2 * m<=D.many)(hwt:D.waits.length<800000) :
 Ca 32 #[.pointer (some ⟨g,0,none⟩)] w fun e' w'=>e'=.returned (I (fg p hash D E).2.2)/\EngS w w' base q g e m p hash pace (fg p hash D E).1 (fg p hash D E).2.1:=by
 have hrd:=mT h;have hsv:=oG (hash:=hash) (pace:=pace) h ok G hd hs big hwt;have HX1:=aT (EngX.of h hd (Step.refl mutE base q w) hs);clear h hd ok
 cases ho:E.off with
 | true=>
   have hun:fg p hash D E=(D,E,50):=by unfold fg;rw[if_pos ho]
   rw[hun];rw[ho,if_pos rfl] at hrd;clear hun;go_enter Tryz.func32,Tryz.ntmps32;go_wp2_with (first | (go_at_call 122;(with_reducible refine (hrd).mono ?_);rintro e' w2 ⟨rfl,rfl⟩) | fail);go_ret;exact⟨rfl,HX1.out.done rfl⟩
 | false=>
   have hun:fg p hash D E=saveB (dr p hash D E):=by unfold fg;rw[if_neg (by rw[ho];simp)]
   rw[hun];rw[ho,if_neg aZ] at hrd;clear hun;generalize dr p hash D E=R at *;obtain⟨D1,E1,z1⟩:=R;simp only at hsv;unfold saveB;simp only;have htl:=fun (W:World) (X:EngS w W base q g e m p hash pace D1 E1)=>jL (hash:=hash) (pace:=pace) X.i X.d (ae hs X.s.size) z1
   go_enter Tryz.func32,Tryz.ntmps32;go_wp2_with (first | (go_at_call 122;(with_reducible refine (hrd).mono ?_);rintro e' w2 ⟨rfl,rfl⟩) | ((go_at_call 125;(with_reducible refine (hsv).mono ?_);rintro e' w4 ⟨rfl,s4⟩);have X4:=aT s4;have htl4:=htl w4 s4;clear s4) | ((go_at_call 124;(with_reducible refine (htl4).mono ?_);rintro e' w5 ⟨rfl,s5⟩);have X5:=aT s5;clear s5) | fail);go_ret;exact⟨rfl,X5.out.d,X5.out.i,X4.out.s.trans X5.out.s⟩
theorem egsubmit_nil (w:World)(B:Option Addr)(k d:Nat):Ca 31 #[.pointer none,.slice B k d] w fun e' w'=>e'=.returned (.tuple #[I 0,I 1])/\w=w':=by
 have hrd:=oO w;go_enter Tryz.func31,Tryz.ntmps31;go_wp2_with (first | (go_at_call 122;(with_reducible refine (hrd).mono ?_);rintro e' w2 ⟨rfl,rfl⟩) | fail);go_ret2;exact⟨rfl,rfl⟩
theorem egsave_nil (w:World):Ca 32 #[.pointer none] w fun e' w'=>e'=.returned (I 1)/\w=w':=by
 have hrd:=oO w;go_enter Tryz.func32,Tryz.ntmps32;go_wp2_with (first | (go_at_call 122;(with_reducible refine (hrd).mono ?_);rintro e' w2 ⟨rfl,rfl⟩) | fail);go_ret;exact⟨rfl,rfl⟩
theorem input_any (h:cF w base q g e m p hash pace E)(ok:EgOk m p E)(G:PrgW p m)(hd:be w base q D)(hs:base<=w.heap.size)(big:11+2 * m<=D.many)(n:Int) :
 Ca 141 #[.pointer (some ⟨g,0,none⟩),I n] w fun e' w'=>∃ B k d,e'=.returned (.tuple #[.slice B k d,I (dm D 11 m 3 E.nIn p.ins n).2.2])/\Ow iv w' w.heap.size 3 B k d (dm D 11 m 3 E.nIn p.ins n).2.1/\EngS w w' base q g e m p hash pace (dm D 11 m 3 E.nIn p.ins n).1 E:=by
 obtain⟨c0,c1,c2,c3,c4,c5,c6,c7,c8,c9,c10⟩:=h.words;have X1:=EngX.of h hd (Step.refl mutE base q w) hs;have hget:=oA X1.r.inn X1.d X1.hs X1.r.al aS (by have:=ok.i0;have:=G.m2;omega) n;have HX1:=aT X1;clear X1 h hd ok;go_enter Tryz.func141,Tryz.ntmps141;go_wp2_with (first | ((go_at_call 210;(with_reducible refine (hget).mono ?_);rintro e' w4 ⟨B,k,d,rfl,o4,d4,s4⟩);have X4:=aT (HX1.out.stepD d4 s4);have O4:=aT o4) | fail);go_ret2
 first | exact⟨B,k,d,rfl,O4.out,X4.out.done rfl⟩ | exact⟨rfl,O4.out,X4.out.done rfl⟩
theorem qg (h:cF w base q g e m p hash pace E)(ok:EgOk m p E)(G:PrgW p m)(hd:be w base q D)(hs:base<=w.heap.size)(big:11+2 * m<=D.many)(n:Int) :
 Ca 98 #[.pointer (some ⟨g,0,none⟩),I n] w fun e' w'=>∃ B k d,e'=.returned (.tuple #[.slice B k d,I (dm D (11+m) m 4 E.nOut p.outs n).2.2])/\Ow iv w' w.heap.size 3 B k d (dm D (11+m) m 4 E.nOut p.outs n).2.1/\EngS w w' base q g e m p hash pace (dm D (11+m) m 4 E.nOut p.outs n).1 E:=by
 obtain⟨c0,c1,c2,c3,c4,c5,c6,c7,c8,c9,c10⟩:=h.words;have X1:=EngX.of h hd (Step.refl mutE base q w) hs;have hget:=skget_any X1.r.out X1.d X1.hs X1.r.as_ aS (by have:=ok.o0;have:=G.m2;omega) n;have HX1:=aT X1;clear X1 h hd ok;go_enter Tryz.func98,Tryz.ntmps98;go_wp2_with (first | ((go_at_call 189;(with_reducible refine (hget).mono ?_);rintro e' w4 ⟨B,k,d,rfl,o4,d4,s4⟩);have X4:=aT (HX1.out.stepD d4 s4);have O4:=aT o4) | fail);go_ret2
 first | exact⟨B,k,d,rfl,O4.out,X4.out.done rfl⟩ | exact⟨rfl,O4.out,X4.out.done rfl⟩
end
