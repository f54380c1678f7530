/- Parts: PlainFeed, PlainFeedB, RefArith, PlainStat, PlainDiv, CodeG, CodeH. -/
import Derived.Test.YtmeebofhlilcmaaGreatPr21
import Derived.Lib.AppendZerosOnto
import Derived.Lib.AppendZeros
set_option linter.unusedVariables false
set_option linter.unusedSimpArgs false
set_option maxRecDepth 100000
set_option maxHeartbeats 0
namespace Go.Proofs.YtmeebofhlilcmaaGreat
variable {ts l:List Int} {k n:Nat} {rows:List (List Int)} {a b:Int}
open Go.RowKit
def dy (D:aW)(f m:Nat)(kind:Int)(next:Nat)(ts:List Int)(n:Int):aW × List Int × Int :=
 if (fq D f m kind next n).2.2≠0 then ((fq D f m kind next n).1,[],(fq D f m kind next n).2.2)
 else if (eJ ts (fq D f m kind next n).2.1).2≠0 then ((fq D f m kind next n).1,[],41)
 else ((fq D f m kind next n).1,(eJ ts (fq D f m kind next n).2.1).1,0)
def dF (D:aW)(f m:Nat)(kind:Int)(next:Nat)(ts:List Int):Nat->aW × Int
 | 0=>(D,0)
 | k+1=>if (dF D f m kind next ts k).2≠0 then dF D f m kind next ts k else ((dy (dF D f m kind next ts k).1 f m kind next ts (k:Int)).1,(dy (dF D f m kind next ts k).1 f m kind next ts (k:Int)).2.2)
def bS (D:aW)(f m:Nat)(kind:Int)(ts:List Int):aW × Nat × Int :=
 if dj ts=false then (D,0,2)
 else if (bP D f m kind).2.2≠0 then ((bP D f m kind).1,0,(bP D f m kind).2.2)
 else if (dF (bP D f m kind).1 f m kind (bP D f m kind).2.1 ts (bP D f m kind).2.1).2≠0 then ((dF (bP D f m kind).1 f m kind (bP D f m kind).2.1 ts (bP D f m kind).2.1).1,0,(dF (bP D f m kind).1 f m kind (bP D f m kind).2.1 ts (bP D f m kind).2.1).2)
 else ((dF (bP D f m kind).1 f m kind (bP D f m kind).2.1 ts (bP D f m kind).2.1).1,(bP D f m kind).2.1,0)
def cy (D:aW)(f m:Nat)(kind:Int)(next:Nat)(ts l:List Int):aW × Nat × Int × Int :=
 if cI ts l=false then (D,next,0,41) else cM D f m kind next (rowB ts l ts.length)
def dY (D:aW)(f m:Nat)(kind:Int)(next:Nat)(ts l:List Int):aW × Nat × Int × Int :=
 if (cy D f m kind next ts l).2.2.2≠0 then ((cy D f m kind next ts l).1,(cy D f m kind next ts l).2.1,0,(cy D f m kind next ts l).2.2.2)
 else if (bG (cy D f m kind next ts l).1).2≠0 then ((bG (cy D f m kind next ts l).1).1,(cy D f m kind next ts l).2.1,0,(bG (cy D f m kind next ts l).1).2)
 else ((bG (cy D f m kind next ts l).1).1,(cy D f m kind next ts l).2.1,(cy D f m kind next ts l).2.2.1,0)
def eX (D:aW)(f m:Nat)(kind:Int)(next:Nat)(ts:List Int)(n:Int)(l:List Int):aW × Nat × Bool × Int :=
 if n<0\/(next:Int)<n then (D,next,false,2)
 else if cI ts l=false then (D,next,false,41)
 else if n<(next:Int) then (D,next,false,0)
 else if (cM D f m kind next (rowB ts l ts.length)).2.2.2≠0 then ((cM D f m kind next (rowB ts l ts.length)).1,(cM D f m kind next (rowB ts l ts.length)).2.1,false,(cM D f m kind next (rowB ts l ts.length)).2.2.2)
 else ((cM D f m kind next (rowB ts l ts.length)).1,(cM D f m kind next (rowB ts l ts.length)).2.1,true,0)
def eE (l:List Int):Prop:=∀ i,i<l.length->-9223372036854775808<=bj l i/\bj l i<=9223372036854775807
theorem jGetV_keeps (D:aW)(f m:Nat)(kind:Int)(next:Nat)(n:Int):∃ o,(fq D f m kind next n).1={ D with ops:=o }:=by
 have hr:∃ o,(bN D f m n).1={ D with ops:=o }:=by
  unfold bN
  split
  · exact⟨D.ops,rfl⟩
  · unfold eW
    split
    · exact⟨D.ops,rfl⟩
    · exact⟨_,rfl⟩
 unfold fq
 split
 · exact⟨D.ops,rfl⟩
 · split
   · exact hr
   · split
     · exact hr
     · exact hr
theorem lW (D:aW)(f m:Nat)(kind:Int)(next:Nat)(ts:List Int)(n:Int):∃ o,(dy D f m kind next ts n).1={ D with ops:=o }:=by
 have h:=jGetV_keeps D f m kind next n;unfold dy
 split
 · exact h
 · split
   · exact h
   · exact h
theorem pw (D:aW)(f m:Nat)(kind:Int)(next:Nat)(ts:List Int):∀ k,∃ o,(dF D f m kind next ts k).1={ D with ops:=o }:=by
 intro k
 induction k with
 | zero=>exact⟨D.ops,rfl⟩
 | succ k ih=>
   obtain⟨o,e⟩:=ih;unfold dF
   split
   · exact⟨o,e⟩
   · obtain⟨o2,e2⟩:=lW (dF D f m kind next ts k).1 f m kind next ts (k:Int);exact⟨o2,by rw[e2,e]⟩
theorem px {D:aW}{f m:Nat}{kind:Int}{next:Nat}(h:(dF D f m kind next ts k).2≠0)(hn:k<=n):dF D f m kind next ts n=dF D f m kind next ts k:=by
 induction n with
 | zero=>rw[show k=0 by omega]
 | succ n ih=>
   by_cases q:k=n+1
   · rw[q]
   · have e:=ih aS
     show (if (dF D f m kind next ts n).2≠0 then _ else _)=_
     rw[e,if_pos h]
structure eY (ts:List Int)(rows:List (List Int)):Prop where
 fits:∀ l ∈ rows,cI ts l=true
 ints:∀ l ∈ rows,eE l
def cB (ts:List Int)(rows:List (List Int)):List (List UInt8):=rows.map (fun l=>rowB ts l ts.length)
theorem fits_right (h:cI ts l=true):dj ts=true:=(jx.1 h).1
theorem lX (h:dj ts=true)(l:List Int):(rowB ts l ts.length).length<=80:=by
 have h1:=rowB_len10 ts l ts.length;have h2:=(fQ.1 h).2.2;omega
theorem loadsOf_len (h:dj ts=true):∀ b ∈ cB ts rows,b.length<=113:=fun b hb=>by
 obtain⟨l,_,e⟩:=List.mem_map.1 hb;rw[<- e];have:=lX h l;omega
theorem nM (h:rows[n]?=some l):(cB ts rows)[n]?=some (rowB ts l ts.length):=by
 unfold cB;rw[List.getElem?_map,h];rfl
section
variable {D:aW} {N:Secs} {f m kind:Nat} {ts:List Int} {rows:List (List Int)}
theorem nN (hoff:D.off=false)(hnow:∀ s:Nat,s<D.many->bT D.now (s:Int)=N s)(hR:eY ts rows)(h:Jrn N f m kind (cB ts rows))(hfm:f+m<=D.many)(k1:1<=kind)(k2:kind<=255)(hm:m<=4096)(hn:rows[n]?=some l) :
 dy D f m (kind:Int) rows.length ts (n:Int)=(cw D,l,0):=by
 have hmem:=List.mem_of_getElem? hn;have hg:=h.get hoff hnow hfm k1 k2 hm (nM hn);rw[show (cB ts rows).length=rows.length by simp[cB]] at hg;unfold dy;rw[hg,readR_rowB (hR.fits l hmem) (hR.ints l hmem)];simp
theorem fall_ok (hoff:D.off=false)(hnow:∀ s:Nat,s<D.many->bT D.now (s:Int)=N s)(hR:eY ts rows)(h:Jrn N f m kind (cB ts rows))(hfm:f+m<=D.many)(k1:1<=kind)(k2:kind<=255)(hm:m<=4096) :
 ∀ k,k<=rows.length->dF D f m (kind:Int) rows.length ts k=(rdK D k,0):=by
 intro k
 induction k with
 | zero=>intro _;rfl
 | succ k ih=>
   intro hk;have e:=ih aS;obtain⟨o,ho⟩:=gg D k;have hg:=nN (D:=rdK D k) (N:=N) (by rw[ho];exact hoff) (fun s hs=>by rw[ho] at hs ⊢;exact hnow s hs) hR h (by rw[ho];exact hfm) k1 k2 hm (ap (show k<rows.length by omega))
   show (if (dF D f m (kind:Int) rows.length ts k).2≠0 then _ else _)=_
   rw[e,hg];simp
   rfl
end
theorem nO (ts:List Int)(rows:List (List Int))(l:List Int):cB ts (rows ++ [l])=cB ts rows ++ [rowB ts l ts.length]:=by simp[cB]
theorem fG (ts:List Int)(rows:List (List Int)):(cB ts rows).length=rows.length:=by simp[cB]
theorem loadsOf_take (ts:List Int)(rows:List (List Int))(n:Nat):(cB ts rows).take n=cB ts (rows.take n):=by simp[cB,List.map_take]
theorem eY.app (h:eY ts rows)(h1:cI ts l=true)(h2:eE l):eY ts (rows ++ [l]) :=
 ⟨fun x hx=>by rcases List.mem_append.1 hx with q | q;exact h.fits x q;rw[List.mem_singleton.1 q];exact h1,fun x hx=>by rcases List.mem_append.1 hx with q | q;exact h.ints x q;rw[List.mem_singleton.1 q];exact h2⟩
theorem eY.take_ (h:eY ts rows)(n:Nat):eY ts (rows.take n):=⟨fun x hx=>h.fits x (List.mem_of_mem_take hx),fun x hx=>h.ints x (List.mem_of_mem_take hx)⟩
section
variable {D:aW} {N:Secs} {P:Says} {f m kind:Nat} {ts l:List Int} {rows:List (List Int)}
theorem Pow.fput (h:Pow D N P)(hfm:f+m<=D.many)(k1:1<=kind)(k2:kind<=255)(hj:Jrn N f m kind (cB ts rows))(hR:eY ts rows)(hl:eE l)(hw:D.waits.length<1000000)
 (hP:cI ts l=true->rows.length<m->fB (P (f+rows.length)) (bQ kind rows.length (rowB ts l ts.length))) :
 (cy D f m (kind:Int) rows.length ts l).1.many=D.many /\
 (((cy D f m (kind:Int) rows.length ts l)=(D,rows.length,0,41)/\cI ts l=false)\/((cy D f m (kind:Int) rows.length ts l)=(D,rows.length,0,52)/\rows.length=m) \/
 ((cy D f m (kind:Int) rows.length ts l).2=(rows.length+1,(rows.length:Int),0)/\Pow (cy D f m (kind:Int) rows.length ts l).1 (putN N (f+rows.length) (bQ kind rows.length (rowB ts l ts.length))) P /\
   Jrn (putN N (f+rows.length) (bQ kind rows.length (rowB ts l ts.length))) f m kind (cB ts (rows ++ [l]))/\eY ts (rows ++ [l])/\(cy D f m (kind:Int) rows.length ts l).1.waits.length=D.waits.length+1/\(D.cut=-1->(cy D f m (kind:Int) rows.length ts l).1.cut=-1)) \/
 ((cy D f m (kind:Int) rows.length ts l).2=(rows.length,0,50)/\(cy D f m (kind:Int) rows.length ts l).1.off=true/\D.cut≠-1/\cI ts l=true/\rows.length<m/\Safe (cy D f m (kind:Int) rows.length ts l).1 P)):=by
 cases hf:cI ts l with
 | false=>
   have:cy D f m (kind:Int) rows.length ts l=(D,rows.length,0,41):=by unfold cy;rw[if_pos hf]
   rw[this];exact⟨rfl,.inl ⟨rfl,rfl⟩⟩
 | true=>
   have hr:=fits_right hf;have hrl:=lX hr l;have e:cy D f m (kind:Int) rows.length ts l=cM D f m (kind:Int) rows.length (rowB ts l ts.length):=by unfold cy;rw[if_neg (by rw[hf];simp)]
   have hle:=hj.le;rw[fG] at hle;rw[e]
   by_cases hm:rows.length=m
   · have:cM D f m (kind:Int) rows.length (rowB ts l ts.length)=(D,rows.length,0,52):=by
      unfold cM;rw[if_neg aS,if_pos aS]
     rw[this];exact⟨rfl,.inr (.inl ⟨rfl,hm⟩)⟩
   · have hlt:rows.length<m:=aS;obtain⟨a1,a2,a3⟩:=h.jadd hfm k1 k2 hlt (l:=rowB ts l ts.length) aS hw (hP hf hlt);refine⟨a1,?_⟩;rcases a3 with ⟨b1,b2,b3⟩ | ⟨b1,b2,b3,b4⟩
     · have hp:=hj.put (by rw[fG];exact hlt) (l:=rowB ts l ts.length) aS;rw[fG] at hp;exact .inr (.inr (.inl ⟨b1,b2,by rw[nO];exact hp,hR.app hf hl,by rw[a2];simp,b3⟩))
     · exact .inr (.inr (.inr ⟨b1,b2,b3,rfl,hlt,b4⟩))
theorem Rest.fadd (h:Rest D N)(hfm:f+m<=D.many)(k1:1<=kind)(k2:kind<=255)(hj:Jrn N f m kind (cB ts rows))(hR:eY ts rows)(hl:eE l)(hN:∀ s:Nat,s<D.many->P s (N s))
 (hP:cI ts l=true->rows.length<m->fB (P (f+rows.length)) (bQ kind rows.length (rowB ts l ts.length))) :
 (dY D f m (kind:Int) rows.length ts l).1.many=D.many /\
 (((dY D f m (kind:Int) rows.length ts l)=(D,rows.length,0,41)/\cI ts l=false)\/((dY D f m (kind:Int) rows.length ts l)=(D,rows.length,0,52)/\rows.length=m) \/
 ((dY D f m (kind:Int) rows.length ts l).2=(rows.length+1,(rows.length:Int),0)/\Rest (dY D f m (kind:Int) rows.length ts l).1 (putN N (f+rows.length) (bQ kind rows.length (rowB ts l ts.length))) /\
   Jrn (putN N (f+rows.length) (bQ kind rows.length (rowB ts l ts.length))) f m kind (cB ts (rows ++ [l]))/\eY ts (rows ++ [l])/\(D.cut=-1->(dY D f m (kind:Int) rows.length ts l).1.cut=-1)) \/
 ((dY D f m (kind:Int) rows.length ts l).2.2=(0,50)/\(dY D f m (kind:Int) rows.length ts l).1.off=true/\D.cut≠-1/\cI ts l=true/\rows.length<m/\Safe (dY D f m (kind:Int) rows.length ts l).1 P)):=by
 obtain⟨a1,a2⟩:=(h.pow hN).fput hfm k1 k2 hj hR hl (by rw[h.waits];simp) hP;have hun:dY D f m (kind:Int) rows.length ts l=if (cy D f m (kind:Int) rows.length ts l).2.2.2≠0 then ((cy D f m (kind:Int) rows.length ts l).1,(cy D f m (kind:Int) rows.length ts l).2.1,0,(cy D f m (kind:Int) rows.length ts l).2.2.2)
  else if (bG (cy D f m (kind:Int) rows.length ts l).1).2≠0 then ((bG (cy D f m (kind:Int) rows.length ts l).1).1,(cy D f m (kind:Int) rows.length ts l).2.1,0,(bG (cy D f m (kind:Int) rows.length ts l).1).2)
  else ((bG (cy D f m (kind:Int) rows.length ts l).1).1,(cy D f m (kind:Int) rows.length ts l).2.1,(cy D f m (kind:Int) rows.length ts l).2.2.1,0):=rfl
 generalize cy D f m (kind:Int) rows.length ts l=R at *;generalize dY D f m (kind:Int) rows.length ts l=S at *;obtain⟨D1,nx,v,er⟩:=R;simp only at a1 a2 hun;rcases a2 with ⟨q,c1⟩ | ⟨q,c1⟩ | ⟨c1,c2,c3,c4,c5,c6⟩ | ⟨c1,c2,c3,c4,c5,c6⟩
 · injection q with q1 q;injection q with q2 q;injection q with q3 q4;subst q1 q2 q3 q4;rw[if_pos aZ] at hun;rw[hun];exact⟨rfl,.inl ⟨rfl,c1⟩⟩
 · injection q with q1 q;injection q with q2 q;injection q with q3 q4;subst q1 q2 q3 q4;rw[if_pos aZ] at hun;rw[hun];exact⟨rfl,.inr (.inl ⟨rfl,c1⟩)⟩
 · injection c1 with q1 c1;injection c1 with q2 q3;subst q1 q2 q3;rw[if_neg aZ] at hun;obtain⟨d1,d2⟩:=c2.flush;rcases d2 with ⟨e1,e2,e3⟩ | ⟨e1,e2,e3,e4⟩
   · rw[if_neg iB] at hun;rw[hun];exact⟨d1.trans a1,.inr (.inr (.inl ⟨rfl,e2,c3,c4,fun q=>e3 (c6 q)⟩))⟩
   · rw[if_pos iB] at hun;rw[hun];have hlt:rows.length<m:=by
      have:=c3.le;rw[fG,aw,aF] at this;omega
     exact⟨d1.trans a1,.inr (.inr (.inr ⟨by rw[e1],e2,fun q=>e3 (c6 q),c4.fits l aZ,hlt,e4⟩))⟩
 · injection c1 with q1 c1;injection c1 with q2 q3;subst q1 q2 q3;rw[if_pos aZ] at hun;rw[hun];exact⟨a1,.inr (.inr (.inr ⟨rfl,c2,c3,c4,c5,c6⟩))⟩
theorem Rest.fopen (h:Rest D N)(hr:dj ts=true)(hfm:f+m<=D.many)(k1:1<=kind)(k2:kind<=255)(hm:m<=4096)(hR:eY ts rows)(hk:k<=rows.length)(hle:rows.length<=m)
 (hj:∀ n,n<m->SecJ kind k (cB ts rows) n (N (f+n))) (hN:∀ s:Nat,s<D.many->P s (N s)) (hz:∀ n,k<=n->n<m->fB (P (f+n)) br) :
 (bS D f m (kind:Int) ts).1.many=D.many /\
 ((∃ nx,k<=nx/\nx<=rows.length/\(bS D f m (kind:Int) ts).2=(nx,0)/\Rest (bS D f m (kind:Int) ts).1 (fv N f nx m)/\Jrn (fv N f nx m) f m kind (cB ts (rows.take nx))/\(D.cut=-1->(bS D f m (kind:Int) ts).1.cut=-1)) \/
 ((bS D f m (kind:Int) ts).2=(0,50)/\(bS D f m (kind:Int) ts).1.off=true/\D.cut≠-1/\Safe (bS D f m (kind:Int) ts).1 P)):=by
 obtain⟨nx,f1,f2,f3,f4,f5,f6⟩:=found (N:=N) (f:=f) (all:=cB ts rows) (k:=k) (m:=m) (kind:=kind) (loadsOf_len hr) (by rw[fG];exact hk) (by rw[fG];exact hle) k1 k2 hm hj;rw[fG] at f2;rw[loadsOf_take] at f6;obtain⟨a1,a2⟩:=h.jopen (kind:=(kind:Int)) aS aS hfm hN f3 f4 f5 (fun n q1 q2=>hz n aS q2);have hun:bS D f m (kind:Int) ts=if dj ts=false then (D,0,2)
  else if (bP D f m (kind:Int)).2.2≠0 then ((bP D f m (kind:Int)).1,0,(bP D f m (kind:Int)).2.2)
  else if (dF (bP D f m (kind:Int)).1 f m (kind:Int) (bP D f m (kind:Int)).2.1 ts (bP D f m (kind:Int)).2.1).2≠0 then ((dF (bP D f m (kind:Int)).1 f m (kind:Int) (bP D f m (kind:Int)).2.1 ts (bP D f m (kind:Int)).2.1).1,0,(dF (bP D f m (kind:Int)).1 f m (kind:Int) (bP D f m (kind:Int)).2.1 ts (bP D f m (kind:Int)).2.1).2)
  else ((dF (bP D f m (kind:Int)).1 f m (kind:Int) (bP D f m (kind:Int)).2.1 ts (bP D f m (kind:Int)).2.1).1,(bP D f m (kind:Int)).2.1,0):=rfl
 generalize bP D f m (kind:Int)=R at *;generalize bS D f m (kind:Int) ts=S at *;obtain⟨D1,n1,er⟩:=R;simp only at a1 a2 hun;rw[if_neg (by rw[hr];simp)] at hun;rcases a2 with ⟨c1,c2,c3⟩ | ⟨c1,c2,c3,c4⟩
 · injection c1 with q1 q2;subst q1 q2;rw[if_neg aZ] at hun;have hlen:(rows.take n1).length=n1:=by rw[aB];omega
   have hall:=fall_ok (D:=D1) (N:=fv N f n1 m) (f:=f) (m:=m) (kind:=kind) (ts:=ts) (rows:=rows.take n1) c2.fit.off c2.now (hR.take_ n1) f6 aS k1 k2 hm n1 aS;rw[hlen] at hall;obtain⟨o,ho⟩:=gg D1 n1;rw[hall,if_neg aZ] at hun;simp only at hun;rw[hun];refine⟨by rw[ho];exact a1,.inl ⟨n1,f1,f2,rfl,?_,f6,fun q=>?_⟩⟩
   · rw[ho];exact c2.ops o
   · rw[ho];exact c3 q
 · injection c1 with q1 q2;subst q1 q2;rw[if_pos aZ] at hun;rw[hun];exact⟨a1,.inr ⟨rfl,c2,c3,c4⟩⟩
end
def dO (X Y:Nat->Int)(j:Nat):Int:=if j=7 then max (X 7) (Y 7) else wrap64 (X j+Y j)
def oneT (k e n:Int):Nat->Int
 | 0=>1
 | 1=>if k=1/\e=0 then 1 else 0
 | 2=>if k=2 then n else 0
 | 3=>if k=3/\e=0 then 1 else 0
 | 4=>if k=5 then 1 else 0
 | 5=>if k=5/\e=0 then 1 else 0
 | 6=>if k=5/\e=0 then n else 0
 | 7=>if k=5/\e=0 then n else 0
 | 8=>if e=41\/e=52\/e=2 then 1 else 0
 | 9=>if e=50\/e=1 then 1 else 0
 | _=>0
def iu (T:Nat->Int)(k e n:Int)(j:Nat):Int:=if j=7/\¬ (k=5/\e=0) then T 7 else oneT k e n j
def addT (T:Nat->Int)(k e n:Int):Nat->Int:=dO T (iu T k e n)
def ofN (K E N:Nat->Int):Nat->Nat->Int
 | 0=>fun _=>0
 | k+1=>addT (ofN K E N k) (K k) (E k) (N k)
theorem wrap64_in {x:Int}(h:-9223372036854775808<=x/\x<=9223372036854775807):wrap64 x=x:=by unfold wrap64;omega
theorem nP (x:Int):-9223372036854775808<=wrap64 x/\wrap64 x<=9223372036854775807:=by unfold wrap64;omega
theorem moreT7 (T:Nat->Int)(k e n:Int):iu T k e n 7=if k=5/\e=0 then n else T 7:=by
 unfold iu oneT;split <;> simp_all
theorem fH {T:Nat->Int}{k e n:Int}{j:Nat}(h:j≠7):iu T k e n j=oneT k e n j:=by unfold iu;rw[if_neg (by omega)]
theorem ofN_congr {K E N K' E' N':Nat->Int}:∀ k,(∀ i,i<k->K i=K' i/\E i=E' i/\N i=N' i)->ofN K E N k=ofN K' E' N' k:=by
 intro k
 induction k with
 | zero=>intro _;rfl
 | succ k ih=>
   intro h;obtain⟨h1,h2,h3⟩:=h k (by omega)
   show addT (ofN K E N k) _ _ _=addT (ofN K' E' N' k) _ _ _
   rw[ih (fun i hi=>h i (by omega)),h1,h2,h3]
def divK (a b:Int):Int:=if b=0 then 0 else if b=-1 then wrap64 (-a) else a.tdiv b
def modK (a b:Int):Int:=wrap64 (a - wrap64 (divK a b * b))
def eF (b:Bool):Int:=if b then 1 else 0
def oneK (op a:Int):Int:=if op=5 then wrap64 (-a) else if op=6 then eF (a == 0) else 0
def doK (op a b:Int):Int :=
 if op=7 then wrap64 (a+b) else if op=8 then wrap64 (a - b) else if op=9 then wrap64 (a * b) else if op=10 then divK a b else if op=11 then modK a b
 else if op=12 then eF (a == b) else if op=13 then eF (a != b) else if op=14 then eF (decide (a<b)) else if op=15 then eF (decide (a<=b)) else if op=16 then eF (decide (b<a)) else if op=17 then eF (decide (b<=a))
 else if op=18 then eF ((a != 0) && (b != 0)) else if op=19 then eF ((a != 0) || (b != 0)) else if op=20 then eF ((a != 0) != (b != 0)) else 0
theorem divK_in (ha:-9223372036854775808<=a/\a<=9223372036854775807):-9223372036854775808<=divK a b/\divK a b<=9223372036854775807:=by
 unfold divK
 split
 · omega
 · split
   · exact nP _
   · rename_i h0 h1;have hn:(a.tdiv b).natAbs=a.natAbs / b.natAbs:=Int.natAbs_tdiv a b;have h2:2<=b.natAbs\/b=1:=aS;rcases h2 with h2 | h2
     · have:a.natAbs / b.natAbs<=a.natAbs / 2:=Nat.div_le_div_left h2 aS;omega
     · subst h2;rw[Int.tdiv_one];exact ha
def In64 (z:Int):Prop:=-9223372036854775808<=z/\z<=9223372036854775807
theorem in_ite {c:Prop} [Decidable c](h1:In64 a)(h2:In64 b):In64 (if c then a else b):=by split <;> assumption
theorem flagK_in (x:Bool):In64 (eF x):=by cases x <;> (unfold In64;simp[eF])
theorem doK_in {op:Int}(ha:In64 a):In64 (doK op a b):=by
 have hw:∀ x,In64 (wrap64 x):=nP;have hd:In64 (divK a b):=divK_in ha;unfold doK modK;generalize divK a b=d at *
 repeat' (with_reducible refine in_ite ?_ ?_)
 all_goals first | exact flagK_in _ | exact hw _ | exact hd | (unfold In64;omega)
theorem oneK_in (op a:Int):In64 (oneK op a):=by
 have hw:∀ x,In64 (wrap64 x):=nP;unfold oneK
 repeat' (with_reducible refine in_ite ?_ ?_)
 all_goals first | exact flagK_in _ | exact hw _ | (unfold In64;omega)
theorem grow_any (n:Nat)(h0:0<n)(hn:n<=1000000)(w:World):Ca 279 #[.slice none 0 0,I (n:Nat)] w fun e w'=>∃ g c,e=.returned (.slice (some ⟨g,0,none⟩) 0 c)/\OB w' w.heap.size 5 (some ⟨g,0,none⟩) 0 c []/\Below w.heap.size w w':=by
 obtain⟨ht,⟨i0,hi,hz,hs,hby⟩,hzs,_⟩:=cG;have hold:(Builtin.firstCells i0.size 0 (.slice none 0 0)).run Tryz.prog w.drew=.ok ([]:List Value).toArray w.drew:=by simp[Builtin.firstCells]
 have hrz:∀ ty,(Builtin.append_ #[27,3] ty #[.slice none 0 0,I (n:Nat)]).run Tryz.prog w =
  .ok (.slice (some ⟨w.heap.size,0,none⟩) n (grownCap w n 0 5)) (w.drew.alloc (.cells (([]:List Value).toArray ++ Builtin.zeroCells (Value.int .u8 0).cells n ++ Builtin.zeroCells (Value.int .u8 0).cells (grownCap w n 0 5 - n)) 5)):=fun ty=>by
  have h:=Lib.run_append_grow_zeros (P:=Tryz.prog) w 27 3 ty 5 i0 (.int .u8 0) .i64 .i64 ht Tryz.underlying3 hi hz none 0 0 [] hold n h0 (by rw[hs];omega) aS aS (by rw[hby];omega)
   (by rw[aC];exact growslice_fits h0 (by rw[hby];omega))
  rw[aC] at h;exact h
 have hGn:n<=grownCap w n 0 5:=grownCap_ge w _ _ _;have hG63:=grownCap_le_maxLen w n 0 5 bU;have hown:∀ w':World,w'.heap[w.heap.size]?=some (.cells (([]:List Value).toArray ++ Builtin.zeroCells (Value.int .u8 0).cells n ++ Builtin.zeroCells (Value.int .u8 0).cells (grownCap w n 0 5 - n)) 5 (0,0)) ->
  OB w' w.heap.size 5 (some ⟨w.heap.size,0,none⟩) 0 (grownCap w n 0 5) []:=fun w' h=>
  ⟨rfl,rfl,.inr ⟨w.heap.size,_,_,rfl,Nat.le_refl _,h,Nat.zero_le _,hG63,by
   rw[Array.size_append,Array.size_append,size_zeroCells,size_zeroCells,hzs]
   show 0+n * 1+_ * 1=_ * 1
   omega,by simp⟩⟩
 have hown2:=hown (w.drew.alloc (.cells (([]:List Value).toArray ++ Builtin.zeroCells (Value.int .u8 0).cells n ++ Builtin.zeroCells (Value.int .u8 0).cells (grownCap w n 0 5 - n)) 5)) (heap_alloc_new w.drew _);clear hold hi hz hs hby hzs ht hown i0;generalize (([]:List Value).toArray ++ Builtin.zeroCells (Value.int .u8 0).cells n ++ Builtin.zeroCells (Value.int .u8 0).cells (grownCap w n 0 5 - n))=C at *;generalize grownCap w n 0 5=G at *;unfold maxLen at hG63;have Hown:=aT hown2;clear hown2;go_enter Tryz.func279,Tryz.ntmps279;go_wp2_with (at_builtin;refine Lib.wpList_append_run _ rfl _ _ _ _ rfl _ _ rfl rfl _ _ (hrz _) ?_);go_ret;exact⟨w.heap.size,G,rfl,Hown.out,ba⟩
theorem lY (n:Nat)(w:World)(h:n<9223372036854775808):Ca 228 #[I n] w fun e w'=>∃ A c,e=.returned (.slice A (digL 9 n).length c)/\OB w' w.heap.size 5 A (digL 9 n).length c (digL 9 n)/\Below w.heap.size w w':=by
 have hs:=fun w=>short_any n w h
 generalize digL 9 n=L at *;clear h;go_enter Tryz.func228,Tryz.ntmps228;go_wp2_with (go_at_call 280;go_call (hs _) as e w1 ⟨A1,c1,rfl,hown,hb⟩);go_ret;exact⟨A1,c1,rfl,hown,hb⟩
theorem u8_wrap (t:Int)(h:t=1\/t=2):bv (UInt8.ofNat t.toNat)=.int .u8 t:=by rcases h with rfl | rfl <;> rfl
theorem py (A:Option Addr)(n c:Nat)(l:List Int)(w:World)(hl:RI w A n l)(hr:dj l=true) :
 Ca 227 #[.slice A n c] w fun e w'=>∃ A N c,e=.returned (.slice A N c)/\OB w' w.heap.size 5 A N c (ic l)/\Below w.heap.size w w':=by
 obtain⟨r1,r2,r3⟩:=fQ.1 hr;have hlen:=hl.1;rw[hlen] at r1 r2 r3;have hs:=fun w=>lY n w aS
 have hT:∀ k,k<n->Hid (digL 9 n ++ (l.take k).map (fun t=>UInt8.ofNat t.toNat) ++ [UInt8.ofNat (bj l k).toNat]=digL 9 n ++ (l.take (k+1)).map (fun t=>UInt8.ofNat t.toNat)):=fun k hk=>by
  show _=_
  rw[aP (show k<l.length by omega),List.map_append,aN];unfold bj;rw[ag,ap (show k<l.length by omega)]
  rfl
 have hD:=(gw 9 n).1;have hfin:Hid (ic l=digL 9 n ++ (l.take n).map (fun t=>UInt8.ofNat t.toNat)):=by
  show _=_
  unfold ic;rw[hlen,au aS]
 have hL0:Hid (digL 9 n ++ (l.take 0).map (fun t=>UInt8.ofNat t.toNat)=digL 9 n):=by show _=_;simp
 generalize ic l=B at *;have hlen2:∀ k,k<=n->(digL 9 n ++ (l.take k).map (fun t=>UInt8.ofNat t.toNat)).length=(digL 9 n).length+k:=fun k hk=>by simp[hlen];omega
 have Hlen2:=aT hlen2;clear hlen hr hlen2;generalize hK:(fun k:Nat=>digL 9 n ++ (l.take k).map (fun t=>UInt8.ofNat t.toNat))=K;have HK:∀ k,Hid (digL 9 n ++ (l.take k).map (fun t=>UInt8.ofNat t.toNat)=K k):=fun k=>by rw[<- hK];rfl
 clear hK;go_enter Tryz.func227,Tryz.ntmps227;go_wp2_with ((go_at_call 228;go_call (hs _) as e w1 ⟨A1,c1,rfl,hown,hb⟩);have hbs:=hb.size);go_loopw [3,11] (fun v i wr=>∃ k A2 c2,k<=n/\i=I (k:Nat)/\v=.slice A2 ((digL 9 n).length+k) c2/\Ow bv wr w.heap.size 5 A2 ((digL 9 n).length+k) c2 (K k)/\Below w.heap.size w wr) (fun _ i _=>n - (intOf i).toNat)
 case atStart=>exact⟨0,A1,c1,aS,rfl,rfl,by rw[<- (HK 0).out,hL0.out];exact hown,hb⟩
 case round=>
  obtain⟨k,A2,c2,hk,rfl,rfl,hown2,hbel⟩:=hrel;have hbs2:=hbel.size
  by_cases hlt:k<n
  · obtain⟨b,o,rfl,_,hc⟩:=(hl.below hbel aX).at_ hlt;have h12:=r1 k hlt;have hkT:=hT k hlt;have hbv:=aT (u8_wrap _ h12);have hkL:Hid (K k ++ [UInt8.ofNat (bj l k).toNat]=K (k+1)):=by show _=_;rw[<- (HK k).out,<- (HK (k+1)).out];exact hkT.out
    clear r1 hT hkT HK hL0;rcases h12 with h | h
    all_goals
     rw[h] at hc hkL;clear h hbv
    · go_wp2_with (at_builtin;refine ef rfl rfl cG da (s:=.tmp 15) (N:=(digL 9 n).length+(k+1)) (L:=K (k+1)) rfl (hown2.below (b:=wr.heap.size) ba bq) rfl (k:=[(1:UInt8)]) (Rd.of_block (l:=[(1:UInt8)]) (dQ _ _ aZ) rfl) rfl (hkL.out) bU aS bq ?_;intro A5 c5 w5 hown5 hg5 hat5 hb5);replace hb5:=bM (a:=w) (B:=w.heap.size) ba hb5 bq;have hb5s:=hb5.size;go_roundw
      case rel=>exact⟨k+1,A5,c5,aS,by go_num,rfl,hown5,hb5⟩
      case measure=>simp[intOf];omega
    · go_wp2_with (at_builtin;refine ef rfl rfl cG da (s:=.tmp 15) (N:=(digL 9 n).length+(k+1)) (L:=K (k+1)) rfl (hown2.below (b:=wr.heap.size) ba bq) rfl (k:=[(2:UInt8)]) (Rd.of_block (l:=[(2:UInt8)]) (dQ _ _ aZ) rfl) rfl (hkL.out) bU aS bq ?_;intro A5 c5 w5 hown5 hg5 hat5 hb5);replace hb5:=bM (a:=w) (B:=w.heap.size) ba hb5 bq;have hb5s:=hb5.size;go_roundw
      case rel=>exact⟨k+1,A5,c5,aS,by go_num,rfl,hown5,hb5⟩
      case measure=>simp[intOf];omega
  · have hkn:k=n:=aS;subst hkn;have hF:Hid (B=K k):=by show _=_;rw[hfin.out];exact (HK k).out
    clear r1 hT HK hfin;go_wp2;go_ret;exact⟨A2,_,c2,rfl,by rw[hF.out];exact hown2,hbel⟩
def sumK (f:Nat->Nat):Nat->Nat
 | 0=>0
 | k+1=>sumK f k+f k
def catK (L:Nat->List UInt8):Nat->List UInt8
 | 0=>[]
 | k+1=>catK L k ++ L k
theorem sumK_le (f:Nat->Nat)(B:Nat):∀ k,(∀ i,i<k->f i<=B)->sumK f k<=B * k:=by
 intro k
 induction k with
 | zero=>intro _;simp[sumK]
 | succ k ih=>
   intro h;have h1:=ih (fun i hi=>h i aS);have h2:=h k aS
   show sumK f k+f k<=B * (k+1)
   rw[Nat.mul_succ];omega
theorem sumK_mono (f:Nat->Nat){j:Nat}(h:j<=k):sumK f j<=sumK f k:=by
 induction k with
 | zero=>rw[show j=0 by omega];exact Nat.le_refl _
 | succ k ih=>
   by_cases e:j=k+1
   · rw[e];exact Nat.le_refl _
   · exact ae (ih aS) (Nat.le_add_right _ _)
theorem catK_len (L:Nat->List UInt8)(f:Nat->Nat)(k:Nat)(h:∀ i,i<k->(L i).length=f i):(catK L k).length=sumK f k:=by
 induction k with
 | zero=>rfl
 | succ k ih=>show (catK L k ++ L k).length=_;rw[aw,ih (fun i hi=>h i aS),h k aS];rfl
theorem concat_any (b m c:Nat)(Av:Nat->Option Addr)(nv cv:Nat->Nat)(L:Nat->List UInt8)(w:World)(hm:m<=10)(hb:b<w.heap.size)
 (hrow:∀ i,i<m->w.cell? ⟨b,i,none⟩=some (.slice (Av i) (nv i) (cv i))) (hrd:∀ i,i<m->RB w (Av i) (nv i) (L i)) (hn:∀ i,i<m->nv i<=1000) (h1:0<sumK nv m) :
 Ca 226 #[.slice (some ⟨b,0,none⟩) m c] w fun e w'=>∃ A N c,e=.returned (.slice A N c)/\OB w' w.heap.size 5 A N c (catK L m)/\Below w.heap.size w w':=by
 have hle:=sumK_le nv 1000 m hn;have hS:∀ k,Hid (sumK nv (k+1)=sumK nv k+nv k):=fun k=>rfl
 have hmono:=fun k (h:k<=m)=>sumK_mono nv h
 have hcl:∀ k,k<=m->(catK L k).length=sumK nv k:=fun k hk=>catK_len L nv k (fun i hi=>(hrd i aS).1)
 have Hcl:=aT hcl;clear hcl;have hC:∀ k,Hid (catK L k ++ L k=catK L (k+1)):=fun k=>rfl
 have hS0:Hid (sumK nv 0=0):=rfl;have hC0:Hid (catK L 0=[]):=rfl;generalize catK L=K at *;generalize sumK nv=S at *;go_enter Tryz.func226,Tryz.ntmps226;go_wp2;go_loop [3,11] (fun v i=>∃ k:Nat,k<=m/\i=I (k:Nat)/\v=I (S k:Nat)) (fun _ i=>m - (intOf i).toNat)
 case atStart=>exact⟨0,aS,rfl,by rw[hS0.out];rfl⟩
 case round=>
  obtain⟨k,hk,rfl,rfl⟩:=hrel
  by_cases hlt:k<m
  · have hc:=hrow k hlt;have hs:=hS k;have hnk:=hn k hlt;have hmk:=hmono k hk;clear hrow hS hC hmono hrd hn;generalize nv k=x at *;go_wp2;go_round
    case rel=>exact⟨k+1,aS,by go_num,by rw[hs.out];go_num⟩
    case measure=>simp[intOf];omega
  · have hkm:k=m:=aS;subst hkm;have hg:=fun w=>grow_any (S k) h1 aS w
    go_wp2_with (go_at_call 279;go_call (hg _) as e w1 ⟨g,c1,rfl,hown,hb1⟩);clear hg;go_loopw [6,27] (fun v i wr=>∃ (j:Nat) (A2:Option Addr) (c2:Nat),j<=k/\i=I (j:Nat)/\v=.slice A2 (S j) c2/\Ow bv wr w.heap.size 5 A2 (S j) c2 (K j)/\Below w.heap.size w wr) (fun _ i _=>k - (intOf i).toNat)
    case atStart=>exact⟨0,some ⟨g,0,none⟩,c1,aS,rfl,by rw[hS0.out],by rw[hS0.out,hC0.out];exact hown,hb1⟩
    case round=>
     obtain⟨j,A2,c2,hj,rfl,rfl,hown2,hbel⟩:=hrel;have hbs:=hbel.size
     by_cases hlt2:j<k
     · have hc:=(hbel.cell (p:=⟨b,j,none⟩) hb).trans (hrow j hlt2);have hrj:=(hrd j hlt2).below hbel aX;have hs:=hS j;have hnk:=hn j hlt2;have hmk:=hmono j hj;have hkL:=hC j;have hmk2:=hmono (j+1) aS;clear hrow hS hC hmono hrd hn hown hb1;generalize nv j=x at *;generalize Av j=A3 at *;generalize cv j=c3 at *;go_wp2_with (at_builtin;refine ef rfl rfl cG da (s:=.tmp 31) (N:=S (j+1)) (L:=K (j+1)) rfl hown2 rfl (k:=L j) hrj.rd hs.out.symm hkL.out bU aS aS ?_;intro A5 c5 w5 hown5 hg5 hat5 hb5);replace hb5:=bM (a:=w) (B:=w.heap.size) ba hb5 bq;have hb5s:=hb5.size;go_roundw
       case rel=>exact⟨j+1,A5,c5,aS,by go_num,rfl,hown5,hb5⟩
       case measure=>simp[intOf];omega
     · have hjk:j=k:=aS;subst hjk;clear hrow hS hC hmono hrd hn hown hb1;go_wp2;go_ret;exact⟨A2,_,c2,rfl,hown2,hbel⟩
end Go.Proofs.YtmeebofhlilcmaaGreat
