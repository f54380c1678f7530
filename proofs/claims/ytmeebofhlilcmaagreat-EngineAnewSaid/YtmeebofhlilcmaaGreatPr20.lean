/- Parts: PlainFeed, PlainFeedB. -/
import Derived.Test.YtmeebofhlilcmaaGreatPr18
set_option linter.unusedVariables false
set_option linter.unusedSimpArgs false
set_option maxRecDepth 100000
set_option maxHeartbeats 0
namespace Go.Proofs.YtmeebofhlilcmaaGreat
variable {ts l:List Int} {n:Nat} {rows:List (List Int)}
open Go.RowKit
def dw (D:aX)(f m:Nat)(kind:Int)(next:Nat)(ts:List Int)(n:Int):aX × List Int × Int :=
 if (fk D f m kind next n).2.2≠0 then ((fk D f m kind next n).1,[],(fk D f m kind next n).2.2)
 else if (eD ts (fk D f m kind next n).2.1).2≠0 then ((fk D f m kind next n).1,[],41)
 else ((fk D f m kind next n).1,(eD ts (fk D f m kind next n).2.1).1,0)
def dE (D:aX)(f m:Nat)(kind:Int)(next:Nat)(ts:List Int):Nat->aX × Int
 | 0=>(D,0)
 | k+1=>if (dE D f m kind next ts k).2≠0 then dE D f m kind next ts k else ((dw (dE D f m kind next ts k).1 f m kind next ts (k:Int)).1,(dw (dE D f m kind next ts k).1 f m kind next ts (k:Int)).2.2)
def bN (D:aX)(f m:Nat)(kind:Int)(ts:List Int):aX × Nat × Int :=
 if da ts=false then (D,0,2)
 else if (bJ D f m kind).2.2≠0 then ((bJ D f m kind).1,0,(bJ D f m kind).2.2)
 else if (dE (bJ D f m kind).1 f m kind (bJ D f m kind).2.1 ts (bJ D f m kind).2.1).2≠0 then ((dE (bJ D f m kind).1 f m kind (bJ D f m kind).2.1 ts (bJ D f m kind).2.1).1,0,(dE (bJ D f m kind).1 f m kind (bJ D f m kind).2.1 ts (bJ D f m kind).2.1).2)
 else ((dE (bJ D f m kind).1 f m kind (bJ D f m kind).2.1 ts (bJ D f m kind).2.1).1,(bJ D f m kind).2.1,0)
def cw (D:aX)(f m:Nat)(kind:Int)(next:Nat)(ts l:List Int):aX × Nat × Int × Int :=
 if cd ts l=false then (D,next,0,41) else cH D f m kind next (rowB ts l ts.length)
def dQ (D:aX)(f m:Nat)(kind:Int)(next:Nat)(ts l:List Int):aX × Nat × Int × Int :=
 if (cw D f m kind next ts l).2.2.2≠0 then ((cw D f m kind next ts l).1,(cw D f m kind next ts l).2.1,0,(cw D f m kind next ts l).2.2.2)
 else if (bu (cw D f m kind next ts l).1).2≠0 then ((bu (cw D f m kind next ts l).1).1,(cw D f m kind next ts l).2.1,0,(bu (cw D f m kind next ts l).1).2)
 else ((bu (cw D f m kind next ts l).1).1,(cw D f m kind next ts l).2.1,(cw D f m kind next ts l).2.2.1,0)
def eR (D:aX)(f m:Nat)(kind:Int)(next:Nat)(ts:List Int)(n:Int)(l:List Int):aX × Nat × Bool × Int :=
 if n<0\/(next:Int)<n then (D,next,false,2)
 else if cd ts l=false then (D,next,false,41)
 else if n<(next:Int) then (D,next,false,0)
 else if (cH D f m kind next (rowB ts l ts.length)).2.2.2≠0 then ((cH D f m kind next (rowB ts l ts.length)).1,(cH D f m kind next (rowB ts l ts.length)).2.1,false,(cH D f m kind next (rowB ts l ts.length)).2.2.2)
 else ((cH D f m kind next (rowB ts l ts.length)).1,(cH D f m kind next (rowB ts l ts.length)).2.1,true,0)
def eS (l:List Int):Prop:=∀ i,i<l.length->-9223372036854775808<=aZ l i/\aZ l i<=9223372036854775807
theorem jGetV_keeps (D:aX)(f m:Nat)(kind:Int)(next:Nat)(n:Int):∃ o,(fk D f m kind next n).1={ D with ops:=o }:=by
 have hr:∃ o,(bG D f m n).1={ D with ops:=o }:=by
  unfold bG
  split
  · exact⟨D.ops,rfl⟩
  · unfold eQ
    split
    · exact⟨D.ops,rfl⟩
    · exact⟨_,rfl⟩
 unfold fk
 split
 · exact⟨D.ops,rfl⟩
 · split
   · exact hr
   · split
     · exact hr
     · exact hr
theorem lW (D:aX)(f m:Nat)(kind:Int)(next:Nat)(ts:List Int)(n:Int):∃ o,(dw D f m kind next ts n).1={ D with ops:=o }:=by
 have h:=jGetV_keeps D f m kind next n;unfold dw
 split
 · exact h
 · split
   · exact h
   · exact h
theorem oG (D:aX)(f m:Nat)(kind:Int)(next:Nat)(ts:List Int):∀ k,∃ o,(dE D f m kind next ts k).1={ D with ops:=o }:=by
 intro k
 induction k with
 | zero=>exact⟨D.ops,rfl⟩
 | succ k ih=>
   obtain⟨o,e⟩:=ih;unfold dE
   split
   · exact⟨o,e⟩
   · obtain⟨o2,e2⟩:=lW (dE D f m kind next ts k).1 f m kind next ts (k:Int);exact⟨o2,by rw[e2,e]⟩
theorem oH {D:aX}{f m:Nat}{kind:Int}{next:Nat}{k:Nat}(h:(dE D f m kind next ts k).2≠0)(hn:k<=n):dE D f m kind next ts n=dE D f m kind next ts k:=by
 induction n with
 | zero=>rw[show k=0 by omega]
 | succ n ih=>
   by_cases q:k=n+1
   · rw[q]
   · have e:=ih aS
     show (if (dE D f m kind next ts n).2≠0 then _ else _)=_
     rw[e,if_pos h]
structure eA (ts:List Int)(rows:List (List Int)):Prop where
 fits:∀ l ∈ rows,cd ts l=true
 ints:∀ l ∈ rows,eS l
def cx (ts:List Int)(rows:List (List Int)):List (List UInt8):=rows.map (fun l=>rowB ts l ts.length)
theorem fits_right (h:cd ts l=true):da ts=true:=(iO.1 h).1
theorem lX (h:da ts=true)(l:List Int):(rowB ts l ts.length).length<=80:=by
 have h1:=rowB_len10 ts l ts.length;have h2:=(fJ.1 h).2.2;omega
theorem loadsOf_len (h:da ts=true):∀ b ∈ cx ts rows,b.length<=113:=fun b hb=>by
 obtain⟨l,_,e⟩:=List.mem_map.1 hb;rw[<- e];have:=lX h l;omega
theorem nw (h:rows[n]?=some l):(cx ts rows)[n]?=some (rowB ts l ts.length):=by
 unfold cx;rw[List.getElem?_map,h];rfl
section
variable {D:aX} {N:Secs} {f m kind:Nat} {ts:List Int} {rows:List (List Int)}
theorem ny (hoff:D.off=false)(hnow:∀ s:Nat,s<D.many->bM D.now (s:Int)=N s)(hR:eA ts rows)(h:Jrn N f m kind (cx ts rows))(hfm:f+m<=D.many)(k1:1<=kind)(k2:kind<=255)(hm:m<=4096)(hn:rows[n]?=some l) :
 dw D f m (kind:Int) rows.length ts (n:Int)=(dY D,l,0):=by
 have hmem:=List.mem_of_getElem? hn;have hg:=h.get hoff hnow hfm k1 k2 hm (nw hn);rw[show (cx ts rows).length=rows.length by simp[cx]] at hg;unfold dw;rw[hg,readR_rowB (hR.fits l hmem) (hR.ints l hmem)];simp
theorem fall_ok (hoff:D.off=false)(hnow:∀ s:Nat,s<D.many->bM D.now (s:Int)=N s)(hR:eA ts rows)(h:Jrn N f m kind (cx ts rows))(hfm:f+m<=D.many)(k1:1<=kind)(k2:kind<=255)(hm:m<=4096) :
 ∀ k,k<=rows.length->dE D f m (kind:Int) rows.length ts k=(rdK D k,0):=by
 intro k
 induction k with
 | zero=>intro _;rfl
 | succ k ih=>
   intro hk;have e:=ih aS;obtain⟨o,ho⟩:=gv D k;have hg:=ny (D:=rdK D k) (N:=N) (by rw[ho];exact hoff) (fun s hs=>by rw[ho] at hs ⊢;exact hnow s hs) hR h (by rw[ho];exact hfm) k1 k2 hm (ap (show k<rows.length by omega))
   show (if (dE D f m (kind:Int) rows.length ts k).2≠0 then _ else _)=_
   rw[e,hg];simp
   rfl
end
theorem nz (ts:List Int)(rows:List (List Int))(l:List Int):cx ts (rows ++ [l])=cx ts rows ++ [rowB ts l ts.length]:=by simp[cx]
theorem fE (ts:List Int)(rows:List (List Int)):(cx ts rows).length=rows.length:=by simp[cx]
theorem loadsOf_take (ts:List Int)(rows:List (List Int))(n:Nat):(cx ts rows).take n=cx ts (rows.take n):=by simp[cx,List.map_take]
theorem eA.app (h:eA ts rows)(h1:cd ts l=true)(h2:eS l):eA ts (rows ++ [l]) :=
 ⟨fun x hx=>by rcases List.mem_append.1 hx with q | q;exact h.fits x q;rw[List.mem_singleton.1 q];exact h1,fun x hx=>by rcases List.mem_append.1 hx with q | q;exact h.ints x q;rw[List.mem_singleton.1 q];exact h2⟩
theorem eA.take_ (h:eA ts rows)(n:Nat):eA ts (rows.take n):=⟨fun x hx=>h.fits x (List.mem_of_mem_take hx),fun x hx=>h.ints x (List.mem_of_mem_take hx)⟩
section
variable {D:aX} {N:Secs} {P:Says} {f m kind:Nat} {ts l:List Int} {rows:List (List Int)}
theorem Pow.fput (h:Pow D N P)(hfm:f+m<=D.many)(k1:1<=kind)(k2:kind<=255)(hj:Jrn N f m kind (cx ts rows))(hR:eA ts rows)(hl:eS l)(hw:D.waits.length<1000000)
 (hP:cd ts l=true->rows.length<m->fv (P (f+rows.length)) (bQ kind rows.length (rowB ts l ts.length))) :
 (cw D f m (kind:Int) rows.length ts l).1.many=D.many /\
 (((cw D f m (kind:Int) rows.length ts l)=(D,rows.length,0,41)/\cd ts l=false)\/((cw D f m (kind:Int) rows.length ts l)=(D,rows.length,0,52)/\rows.length=m) \/
 ((cw D f m (kind:Int) rows.length ts l).2=(rows.length+1,(rows.length:Int),0)/\Pow (cw D f m (kind:Int) rows.length ts l).1 (putN N (f+rows.length) (bQ kind rows.length (rowB ts l ts.length))) P /\
   Jrn (putN N (f+rows.length) (bQ kind rows.length (rowB ts l ts.length))) f m kind (cx ts (rows ++ [l]))/\eA ts (rows ++ [l])/\(cw D f m (kind:Int) rows.length ts l).1.waits.length=D.waits.length+1/\(D.cut=-1->(cw D f m (kind:Int) rows.length ts l).1.cut=-1)) \/
 ((cw D f m (kind:Int) rows.length ts l).2=(rows.length,0,50)/\(cw D f m (kind:Int) rows.length ts l).1.off=true/\D.cut≠-1/\cd ts l=true/\rows.length<m/\Safe (cw D f m (kind:Int) rows.length ts l).1 P)):=by
 cases hf:cd ts l with
 | false=>
   have:cw D f m (kind:Int) rows.length ts l=(D,rows.length,0,41):=by unfold cw;rw[if_pos hf]
   rw[this];exact⟨rfl,.inl ⟨rfl,rfl⟩⟩
 | true=>
   have hr:=fits_right hf;have hrl:=lX hr l;have e:cw D f m (kind:Int) rows.length ts l=cH D f m (kind:Int) rows.length (rowB ts l ts.length):=by unfold cw;rw[if_neg (by rw[hf];simp)]
   have hle:=hj.le;rw[fE] at hle;rw[e]
   by_cases hm:rows.length=m
   · have:cH D f m (kind:Int) rows.length (rowB ts l ts.length)=(D,rows.length,0,52):=by
      unfold cH;rw[if_neg aS,if_pos aS]
     rw[this];exact⟨rfl,.inr (.inl ⟨rfl,hm⟩)⟩
   · have hlt:rows.length<m:=aS;obtain⟨a1,a2,a3⟩:=h.jadd hfm k1 k2 hlt (l:=rowB ts l ts.length) aS hw (hP hf hlt);refine⟨a1,?_⟩;rcases a3 with ⟨b1,b2,b3⟩ | ⟨b1,b2,b3,b4⟩
     · have hp:=hj.put (by rw[fE];exact hlt) (l:=rowB ts l ts.length) aS;rw[fE] at hp;exact .inr (.inr (.inl ⟨b1,b2,by rw[nz];exact hp,hR.app hf hl,by rw[a2];simp,b3⟩))
     · exact .inr (.inr (.inr ⟨b1,b2,b3,rfl,hlt,b4⟩))
theorem Rest.fadd (h:Rest D N)(hfm:f+m<=D.many)(k1:1<=kind)(k2:kind<=255)(hj:Jrn N f m kind (cx ts rows))(hR:eA ts rows)(hl:eS l)(hN:∀ s:Nat,s<D.many->P s (N s))
 (hP:cd ts l=true->rows.length<m->fv (P (f+rows.length)) (bQ kind rows.length (rowB ts l ts.length))) :
 (dQ D f m (kind:Int) rows.length ts l).1.many=D.many /\
 (((dQ D f m (kind:Int) rows.length ts l)=(D,rows.length,0,41)/\cd ts l=false)\/((dQ D f m (kind:Int) rows.length ts l)=(D,rows.length,0,52)/\rows.length=m) \/
 ((dQ D f m (kind:Int) rows.length ts l).2=(rows.length+1,(rows.length:Int),0)/\Rest (dQ D f m (kind:Int) rows.length ts l).1 (putN N (f+rows.length) (bQ kind rows.length (rowB ts l ts.length))) /\
   Jrn (putN N (f+rows.length) (bQ kind rows.length (rowB ts l ts.length))) f m kind (cx ts (rows ++ [l]))/\eA ts (rows ++ [l])/\(D.cut=-1->(dQ D f m (kind:Int) rows.length ts l).1.cut=-1)) \/
 ((dQ D f m (kind:Int) rows.length ts l).2.2=(0,50)/\(dQ D f m (kind:Int) rows.length ts l).1.off=true/\D.cut≠-1/\cd ts l=true/\rows.length<m/\Safe (dQ D f m (kind:Int) rows.length ts l).1 P)):=by
 obtain⟨a1,a2⟩:=(h.pow hN).fput hfm k1 k2 hj hR hl (by rw[h.waits];simp) hP;have hun:dQ D f m (kind:Int) rows.length ts l=if (cw D f m (kind:Int) rows.length ts l).2.2.2≠0 then ((cw D f m (kind:Int) rows.length ts l).1,(cw D f m (kind:Int) rows.length ts l).2.1,0,(cw D f m (kind:Int) rows.length ts l).2.2.2)
  else if (bu (cw D f m (kind:Int) rows.length ts l).1).2≠0 then ((bu (cw D f m (kind:Int) rows.length ts l).1).1,(cw D f m (kind:Int) rows.length ts l).2.1,0,(bu (cw D f m (kind:Int) rows.length ts l).1).2)
  else ((bu (cw D f m (kind:Int) rows.length ts l).1).1,(cw D f m (kind:Int) rows.length ts l).2.1,(cw D f m (kind:Int) rows.length ts l).2.2.1,0):=rfl
 generalize cw D f m (kind:Int) rows.length ts l=R at *;generalize dQ D f m (kind:Int) rows.length ts l=S at *;obtain⟨D1,nx,v,er⟩:=R;simp only at a1 a2 hun;rcases a2 with ⟨q,c1⟩ | ⟨q,c1⟩ | ⟨c1,c2,c3,c4,c5,c6⟩ | ⟨c1,c2,c3,c4,c5,c6⟩
 · injection q with q1 q;injection q with q2 q;injection q with q3 q4;subst q1 q2 q3 q4;rw[if_pos a8] at hun;rw[hun];exact⟨rfl,.inl ⟨rfl,c1⟩⟩
 · injection q with q1 q;injection q with q2 q;injection q with q3 q4;subst q1 q2 q3 q4;rw[if_pos a8] at hun;rw[hun];exact⟨rfl,.inr (.inl ⟨rfl,c1⟩)⟩
 · injection c1 with q1 c1;injection c1 with q2 q3;subst q1 q2 q3;rw[if_neg a8] at hun;obtain⟨d1,d2⟩:=c2.flush;rcases d2 with ⟨e1,e2,e3⟩ | ⟨e1,e2,e3,e4⟩
   · rw[if_neg iA] at hun;rw[hun];exact⟨d1.trans a1,.inr (.inr (.inl ⟨rfl,e2,c3,c4,fun q=>e3 (c6 q)⟩))⟩
   · rw[if_pos iA] at hun;rw[hun];have hlt:rows.length<m:=by
      have:=c3.le;rw[fE,ay,aL] at this;omega
     exact⟨d1.trans a1,.inr (.inr (.inr ⟨by rw[e1],e2,fun q=>e3 (c6 q),c4.fits l a8,hlt,e4⟩))⟩
 · injection c1 with q1 c1;injection c1 with q2 q3;subst q1 q2 q3;rw[if_pos a8] at hun;rw[hun];exact⟨a1,.inr (.inr (.inr ⟨rfl,c2,c3,c4,c5,c6⟩))⟩
theorem Rest.fopen {k:Nat}(h:Rest D N)(hr:da ts=true)(hfm:f+m<=D.many)(k1:1<=kind)(k2:kind<=255)(hm:m<=4096)(hR:eA ts rows)(hk:k<=rows.length)(hle:rows.length<=m)
 (hj:∀ n,n<m->SecJ kind k (cx ts rows) n (N (f+n))) (hN:∀ s:Nat,s<D.many->P s (N s)) (hz:∀ n,k<=n->n<m->fv (P (f+n)) be) :
 (bN D f m (kind:Int) ts).1.many=D.many /\
 ((∃ nx,k<=nx/\nx<=rows.length/\(bN D f m (kind:Int) ts).2=(nx,0)/\Rest (bN D f m (kind:Int) ts).1 (fu N f nx m)/\Jrn (fu N f nx m) f m kind (cx ts (rows.take nx))/\(D.cut=-1->(bN D f m (kind:Int) ts).1.cut=-1)) \/
 ((bN D f m (kind:Int) ts).2=(0,50)/\(bN D f m (kind:Int) ts).1.off=true/\D.cut≠-1/\Safe (bN D f m (kind:Int) ts).1 P)):=by
 obtain⟨nx,f1,f2,f3,f4,f5,f6⟩:=found (N:=N) (f:=f) (all:=cx ts rows) (k:=k) (m:=m) (kind:=kind) (loadsOf_len hr) (by rw[fE];exact hk) (by rw[fE];exact hle) k1 k2 hm hj;rw[fE] at f2;rw[loadsOf_take] at f6;obtain⟨a1,a2⟩:=h.jopen (kind:=(kind:Int)) aS aS hfm hN f3 f4 f5 (fun n q1 q2=>hz n aS q2);have hun:bN D f m (kind:Int) ts=if da ts=false then (D,0,2)
  else if (bJ D f m (kind:Int)).2.2≠0 then ((bJ D f m (kind:Int)).1,0,(bJ D f m (kind:Int)).2.2)
  else if (dE (bJ D f m (kind:Int)).1 f m (kind:Int) (bJ D f m (kind:Int)).2.1 ts (bJ D f m (kind:Int)).2.1).2≠0 then ((dE (bJ D f m (kind:Int)).1 f m (kind:Int) (bJ D f m (kind:Int)).2.1 ts (bJ D f m (kind:Int)).2.1).1,0,(dE (bJ D f m (kind:Int)).1 f m (kind:Int) (bJ D f m (kind:Int)).2.1 ts (bJ D f m (kind:Int)).2.1).2)
  else ((dE (bJ D f m (kind:Int)).1 f m (kind:Int) (bJ D f m (kind:Int)).2.1 ts (bJ D f m (kind:Int)).2.1).1,(bJ D f m (kind:Int)).2.1,0):=rfl
 generalize bJ D f m (kind:Int)=R at *;generalize bN D f m (kind:Int) ts=S at *;obtain⟨D1,n1,er⟩:=R;simp only at a1 a2 hun;rw[if_neg (by rw[hr];simp)] at hun;rcases a2 with ⟨c1,c2,c3⟩ | ⟨c1,c2,c3,c4⟩
 · injection c1 with q1 q2;subst q1 q2;rw[if_neg a8] at hun;have hlen:(rows.take n1).length=n1:=by rw[aA];omega
   have hall:=fall_ok (D:=D1) (N:=fu N f n1 m) (f:=f) (m:=m) (kind:=kind) (ts:=ts) (rows:=rows.take n1) c2.fit.off c2.now (hR.take_ n1) f6 aS k1 k2 hm n1 aS;rw[hlen] at hall;obtain⟨o,ho⟩:=gv D1 n1;rw[hall,if_neg a8] at hun;simp only at hun;rw[hun];refine⟨by rw[ho];exact a1,.inl ⟨n1,f1,f2,rfl,?_,f6,fun q=>?_⟩⟩
   · rw[ho];exact c2.ops o
   · rw[ho];exact c3 q
 · injection c1 with q1 q2;subst q1 q2;rw[if_pos a8] at hun;rw[hun];exact⟨a1,.inr ⟨rfl,c2,c3,c4⟩⟩
end
end Go.Proofs.YtmeebofhlilcmaaGreat
