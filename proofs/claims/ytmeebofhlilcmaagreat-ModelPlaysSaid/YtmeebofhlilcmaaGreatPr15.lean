/- Parts. -/
import Derived.Test.YtmeebofhlilcmaaGreatPr14
import Derived.Lib.AppendZerosOnto
import Derived.Lib.AppendZeros
set_option linter.unusedVariables false
set_option linter.unusedSimpArgs false
set_option maxRecDepth 100000
set_option maxHeartbeats 0
namespace Go.Proofs.YtmeebofhlilcmaaGreat
variable {ts l:List Int} {k n:Nat} {rows:List (List Int)} {a b:Int}
open Go.RowKit
def dm (D:aX)(f m:Nat)(kind:Int)(next:Nat)(ts:List Int)(n:Int):aX × List Int × Int :=
 if (eX D f m kind next n).2.2≠0 then ((eX D f m kind next n).1,[],(eX D f m kind next n).2.2)
 else if (eK ts (eX D f m kind next n).2.1).2≠0 then ((eX D f m kind next n).1,[],41)
 else ((eX D f m kind next n).1,(eK ts (eX D f m kind next n).2.1).1,0)
def dG (D:aX)(f m:Nat)(kind:Int)(next:Nat)(ts:List Int):Nat->aX × Int
 | 0=>(D,0)
 | k+1=>if (dG D f m kind next ts k).2≠0 then dG D f m kind next ts k else ((dm (dG D f m kind next ts k).1 f m kind next ts (k:Int)).1,(dm (dG D f m kind next ts k).1 f m kind next ts (k:Int)).2.2)
def bS (D:aX)(f m:Nat)(kind:Int)(ts:List Int):aX × Nat × Int :=
 if da ts=false then (D,0,2)
 else if (bP D f m kind).2.2≠0 then ((bP D f m kind).1,0,(bP D f m kind).2.2)
 else if (dG (bP D f m kind).1 f m kind (bP D f m kind).2.1 ts (bP D f m kind).2.1).2≠0 then ((dG (bP D f m kind).1 f m kind (bP D f m kind).2.1 ts (bP D f m kind).2.1).1,0,(dG (bP D f m kind).1 f m kind (bP D f m kind).2.1 ts (bP D f m kind).2.1).2)
 else ((dG (bP D f m kind).1 f m kind (bP D f m kind).2.1 ts (bP D f m kind).2.1).1,(bP D f m kind).2.1,0)
def cE (D:aX)(f m:Nat)(kind:Int)(next:Nat)(ts l:List Int):aX × Nat × Int × Int :=
 if cx ts l=false then (D,next,0,41) else cO D f m kind next (rowB ts l ts.length)
def dY (D:aX)(f m:Nat)(kind:Int)(next:Nat)(ts l:List Int):aX × Nat × Int × Int :=
 if (cE D f m kind next ts l).2.2.2≠0 then ((cE D f m kind next ts l).1,(cE D f m kind next ts l).2.1,0,(cE D f m kind next ts l).2.2.2)
 else if (bH (cE D f m kind next ts l).1).2≠0 then ((bH (cE D f m kind next ts l).1).1,(cE D f m kind next ts l).2.1,0,(bH (cE D f m kind next ts l).1).2)
 else ((bH (cE D f m kind next ts l).1).1,(cE D f m kind next ts l).2.1,(cE D f m kind next ts l).2.2.1,0)
def ff (D:aX)(f m:Nat)(kind:Int)(next:Nat)(ts:List Int)(n:Int)(l:List Int):aX × Nat × Bool × Int :=
 if n<0\/(next:Int)<n then (D,next,false,2)
 else if cx ts l=false then (D,next,false,41)
 else if n<(next:Int) then (D,next,false,0)
 else if (cO D f m kind next (rowB ts l ts.length)).2.2.2≠0 then ((cO D f m kind next (rowB ts l ts.length)).1,(cO D f m kind next (rowB ts l ts.length)).2.1,false,(cO D f m kind next (rowB ts l ts.length)).2.2.2)
 else ((cO D f m kind next (rowB ts l ts.length)).1,(cO D f m kind next (rowB ts l ts.length)).2.1,true,0)
def eN (l:List Int):Prop:=∀ i,i<l.length->-9223372036854775808<=bj l i/\bj l i<=9223372036854775807
theorem jGetV_keeps (D:aX)(f m:Nat)(kind:Int)(next:Nat)(n:Int):∃ o,(eX D f m kind next n).1={ D with ops:=o }:=by
 have hr:∃ o,(bN D f m n).1={ D with ops:=o }:=by
  unfold bN
  split
  · exact⟨D.ops,rfl⟩
  · unfold eW
    split
    · exact⟨D.ops,rfl⟩
    · exact⟨_,rfl⟩
 unfold eX
 split
 · exact⟨D.ops,rfl⟩
 · split
   · exact hr
   · split
     · exact hr
     · exact hr
theorem mu (D:aX)(f m:Nat)(kind:Int)(next:Nat)(ts:List Int)(n:Int):∃ o,(dm D f m kind next ts n).1={ D with ops:=o }:=by
 have h:=jGetV_keeps D f m kind next n;unfold dm
 split
 · exact h
 · split
   · exact h
   · exact h
theorem pJ (D:aX)(f m:Nat)(kind:Int)(next:Nat)(ts:List Int):∀ k,∃ o,(dG D f m kind next ts k).1={ D with ops:=o }:=by
 intro k
 induction k with
 | zero=>exact⟨D.ops,rfl⟩
 | succ k ih=>
   obtain⟨o,e⟩:=ih;unfold dG
   split
   · exact⟨o,e⟩
   · obtain⟨o2,e2⟩:=mu (dG D f m kind next ts k).1 f m kind next ts (k:Int);exact⟨o2,by rw[e2,e]⟩
theorem pK {D:aX}{f m:Nat}{kind:Int}{next:Nat}(h:(dG D f m kind next ts k).2≠0)(hn:k<=n):dG D f m kind next ts n=dG D f m kind next ts k:=by
 induction n with
 | zero=>rw[show k=0 by omega]
 | succ n ih=>
   by_cases q:k=n+1
   · rw[q]
   · have e:=ih aS
     show (if (dG D f m kind next ts n).2≠0 then _ else _)=_
     rw[e,if_pos h]
structure dN (ts:List Int)(rows:List (List Int)):Prop where
 fits:∀ l ∈ rows,cx ts l=true
 ints:∀ l ∈ rows,eN l
def cG (ts:List Int)(rows:List (List Int)):List (List UInt8):=rows.map (fun l=>rowB ts l ts.length)
theorem fits_right (h:cx ts l=true):da ts=true:=(jC.1 h).1
theorem mw (h:da ts=true)(l:List Int):(rowB ts l ts.length).length<=80:=by
 have h1:=rowB_len10 ts l ts.length;have h2:=(fG.1 h).2.2;omega
theorem loadsOf_len (h:da ts=true):∀ b ∈ cG ts rows,b.length<=113:=fun b hb=>by
 obtain⟨l,_,e⟩:=List.mem_map.1 hb;rw[<- e];have:=mw h l;omega
theorem n9 (h:rows[n]?=some l):(cG ts rows)[n]?=some (rowB ts l ts.length):=by
 unfold cG;rw[List.getElem?_map,h];rfl
section
variable {D:aX} {N:Secs} {f m kind:Nat} {ts:List Int} {rows:List (List Int)}
theorem my (hoff:D.off=false)(hnow:∀ s:Nat,s<D.many->ch D.now (s:Int)=N s)(hR:dN ts rows)(h:Jrn N f m kind (cG ts rows))(hfm:f+m<=D.many)(k1:1<=kind)(k2:kind<=255)(hm:m<=4096)(hn:rows[n]?=some l) :
 dm D f m (kind:Int) rows.length ts (n:Int)=(dZ D,l,0):=by
 have hmem:=List.mem_of_getElem? hn;have hg:=h.get hoff hnow hfm k1 k2 hm (n9 hn);rw[show (cG ts rows).length=rows.length by simp[cG]] at hg;unfold dm;rw[hg,readR_rowB (hR.fits l hmem) (hR.ints l hmem)];simp
theorem fall_ok (hoff:D.off=false)(hnow:∀ s:Nat,s<D.many->ch D.now (s:Int)=N s)(hR:dN ts rows)(h:Jrn N f m kind (cG ts rows))(hfm:f+m<=D.many)(k1:1<=kind)(k2:kind<=255)(hm:m<=4096) :
 ∀ k,k<=rows.length->dG D f m (kind:Int) rows.length ts k=(rdK D k,0):=by
 intro k
 induction k with
 | zero=>intro _;rfl
 | succ k ih=>
   intro hk;have e:=ih aS;obtain⟨o,ho⟩:=gO D k;have hg:=my (D:=rdK D k) (N:=N) (by rw[ho];exact hoff) (fun s hs=>by rw[ho] at hs ⊢;exact hnow s hs) hR h (by rw[ho];exact hfm) k1 k2 hm (ap (show k<rows.length by omega))
   show (if (dG D f m (kind:Int) rows.length ts k).2≠0 then _ else _)=_
   rw[e,hg];simp
   rfl
end
theorem od (ts:List Int)(rows:List (List Int))(l:List Int):cG ts (rows ++ [l])=cG ts rows ++ [rowB ts l ts.length]:=by simp[cG]
theorem fK (ts:List Int)(rows:List (List Int)):(cG ts rows).length=rows.length:=by simp[cG]
theorem loadsOf_take (ts:List Int)(rows:List (List Int))(n:Nat):(cG ts rows).take n=cG ts (rows.take n):=by simp[cG,List.map_take]
theorem dN.app (h:dN ts rows)(h1:cx ts l=true)(h2:eN l):dN ts (rows ++ [l]) :=
 ⟨fun x hx=>by rcases List.mem_append.1 hx with q | q;exact h.fits x q;rw[List.mem_singleton.1 q];exact h1,fun x hx=>by rcases List.mem_append.1 hx with q | q;exact h.ints x q;rw[List.mem_singleton.1 q];exact h2⟩
theorem dN.take_ (h:dN ts rows)(n:Nat):dN ts (rows.take n):=⟨fun x hx=>h.fits x (List.mem_of_mem_take hx),fun x hx=>h.ints x (List.mem_of_mem_take hx)⟩
section
variable {D:aX} {N:Secs} {P:Says} {f m kind:Nat} {ts l:List Int} {rows:List (List Int)}
theorem Pow.fput (h:Pow D N P)(hfm:f+m<=D.many)(k1:1<=kind)(k2:kind<=255)(hj:Jrn N f m kind (cG ts rows))(hR:dN ts rows)(hl:eN l)(hw:D.waits.length<1000000)
 (hP:cx ts l=true->rows.length<m->fD (P (f+rows.length)) (bU kind rows.length (rowB ts l ts.length))) :
 (cE D f m (kind:Int) rows.length ts l).1.many=D.many /\
 (((cE D f m (kind:Int) rows.length ts l)=(D,rows.length,0,41)/\cx ts l=false)\/((cE D f m (kind:Int) rows.length ts l)=(D,rows.length,0,52)/\rows.length=m) \/
 ((cE D f m (kind:Int) rows.length ts l).2=(rows.length+1,(rows.length:Int),0)/\Pow (cE D f m (kind:Int) rows.length ts l).1 (putN N (f+rows.length) (bU kind rows.length (rowB ts l ts.length))) P /\
   Jrn (putN N (f+rows.length) (bU kind rows.length (rowB ts l ts.length))) f m kind (cG ts (rows ++ [l]))/\dN ts (rows ++ [l])/\(cE D f m (kind:Int) rows.length ts l).1.waits.length=D.waits.length+1/\(D.cut=-1->(cE D f m (kind:Int) rows.length ts l).1.cut=-1)) \/
 ((cE D f m (kind:Int) rows.length ts l).2=(rows.length,0,50)/\(cE D f m (kind:Int) rows.length ts l).1.off=true/\D.cut≠-1/\cx ts l=true/\rows.length<m/\Safe (cE D f m (kind:Int) rows.length ts l).1 P)):=by
 cases hf:cx ts l with
 | false=>
   have:cE D f m (kind:Int) rows.length ts l=(D,rows.length,0,41):=by unfold cE;rw[if_pos hf]
   rw[this];exact⟨rfl,.inl ⟨rfl,rfl⟩⟩
 | true=>
   have hr:=fits_right hf;have hrl:=mw hr l;have e:cE D f m (kind:Int) rows.length ts l=cO D f m (kind:Int) rows.length (rowB ts l ts.length):=by unfold cE;rw[if_neg (by rw[hf];simp)]
   have hle:=hj.le;rw[fK] at hle;rw[e]
   by_cases hm:rows.length=m
   · have:cO D f m (kind:Int) rows.length (rowB ts l ts.length)=(D,rows.length,0,52):=by
      unfold cO;rw[if_neg aS,if_pos aS]
     rw[this];exact⟨rfl,.inr (.inl ⟨rfl,hm⟩)⟩
   · have hlt:rows.length<m:=aS;obtain⟨a1,a2,a3⟩:=h.jadd hfm k1 k2 hlt (l:=rowB ts l ts.length) aS hw (hP hf hlt);refine⟨a1,?_⟩;rcases a3 with ⟨b1,b2,b3⟩ | ⟨b1,b2,b3,b4⟩
     · have hp:=hj.put (by rw[fK];exact hlt) (l:=rowB ts l ts.length) aS;rw[fK] at hp;exact .inr (.inr (.inl ⟨b1,b2,by rw[od];exact hp,hR.app hf hl,by rw[a2];simp,b3⟩))
     · exact .inr (.inr (.inr ⟨b1,b2,b3,rfl,hlt,b4⟩))
theorem Rest.fadd (h:Rest D N)(hfm:f+m<=D.many)(k1:1<=kind)(k2:kind<=255)(hj:Jrn N f m kind (cG ts rows))(hR:dN ts rows)(hl:eN l)(hN:∀ s:Nat,s<D.many->P s (N s))
 (hP:cx ts l=true->rows.length<m->fD (P (f+rows.length)) (bU kind rows.length (rowB ts l ts.length))) :
 (dY D f m (kind:Int) rows.length ts l).1.many=D.many /\
 (((dY D f m (kind:Int) rows.length ts l)=(D,rows.length,0,41)/\cx ts l=false)\/((dY D f m (kind:Int) rows.length ts l)=(D,rows.length,0,52)/\rows.length=m) \/
 ((dY D f m (kind:Int) rows.length ts l).2=(rows.length+1,(rows.length:Int),0)/\Rest (dY D f m (kind:Int) rows.length ts l).1 (putN N (f+rows.length) (bU kind rows.length (rowB ts l ts.length))) /\
   Jrn (putN N (f+rows.length) (bU kind rows.length (rowB ts l ts.length))) f m kind (cG ts (rows ++ [l]))/\dN ts (rows ++ [l])/\(D.cut=-1->(dY D f m (kind:Int) rows.length ts l).1.cut=-1)) \/
 ((dY D f m (kind:Int) rows.length ts l).2.2=(0,50)/\(dY D f m (kind:Int) rows.length ts l).1.off=true/\D.cut≠-1/\cx ts l=true/\rows.length<m/\Safe (dY D f m (kind:Int) rows.length ts l).1 P)):=by
 obtain⟨a1,a2⟩:=(h.pow hN).fput hfm k1 k2 hj hR hl (by rw[h.waits];simp) hP;have hun:dY D f m (kind:Int) rows.length ts l=if (cE D f m (kind:Int) rows.length ts l).2.2.2≠0 then ((cE D f m (kind:Int) rows.length ts l).1,(cE D f m (kind:Int) rows.length ts l).2.1,0,(cE D f m (kind:Int) rows.length ts l).2.2.2)
  else if (bH (cE D f m (kind:Int) rows.length ts l).1).2≠0 then ((bH (cE D f m (kind:Int) rows.length ts l).1).1,(cE D f m (kind:Int) rows.length ts l).2.1,0,(bH (cE D f m (kind:Int) rows.length ts l).1).2)
  else ((bH (cE D f m (kind:Int) rows.length ts l).1).1,(cE D f m (kind:Int) rows.length ts l).2.1,(cE D f m (kind:Int) rows.length ts l).2.2.1,0):=rfl
 generalize cE D f m (kind:Int) rows.length ts l=R at *;generalize dY D f m (kind:Int) rows.length ts l=S at *;obtain⟨D1,nx,v,er⟩:=R;simp only at a1 a2 hun;rcases a2 with ⟨q,c1⟩ | ⟨q,c1⟩ | ⟨c1,c2,c3,c4,c5,c6⟩ | ⟨c1,c2,c3,c4,c5,c6⟩
 · injection q with q1 q;injection q with q2 q;injection q with q3 q4;subst q1 q2 q3 q4;rw[if_pos aZ] at hun;rw[hun];exact⟨rfl,.inl ⟨rfl,c1⟩⟩
 · injection q with q1 q;injection q with q2 q;injection q with q3 q4;subst q1 q2 q3 q4;rw[if_pos aZ] at hun;rw[hun];exact⟨rfl,.inr (.inl ⟨rfl,c1⟩)⟩
 · injection c1 with q1 c1;injection c1 with q2 q3;subst q1 q2 q3;rw[if_neg aZ] at hun;obtain⟨d1,d2⟩:=c2.flush;rcases d2 with ⟨e1,e2,e3⟩ | ⟨e1,e2,e3,e4⟩
   · rw[if_neg iP] at hun;rw[hun];exact⟨d1.trans a1,.inr (.inr (.inl ⟨rfl,e2,c3,c4,fun q=>e3 (c6 q)⟩))⟩
   · rw[if_pos iP] at hun;rw[hun];have hlt:rows.length<m:=by
      have:=c3.le;rw[fK,aw,aJ] at this;omega
     exact⟨d1.trans a1,.inr (.inr (.inr ⟨by rw[e1],e2,fun q=>e3 (c6 q),c4.fits l aZ,hlt,e4⟩))⟩
 · injection c1 with q1 c1;injection c1 with q2 q3;subst q1 q2 q3;rw[if_pos aZ] at hun;rw[hun];exact⟨a1,.inr (.inr (.inr ⟨rfl,c2,c3,c4,c5,c6⟩))⟩
theorem Rest.fopen (h:Rest D N)(hr:da ts=true)(hfm:f+m<=D.many)(k1:1<=kind)(k2:kind<=255)(hm:m<=4096)(hR:dN ts rows)(hk:k<=rows.length)(hle:rows.length<=m)
 (hj:∀ n,n<m->SecJ kind k (cG ts rows) n (N (f+n))) (hN:∀ s:Nat,s<D.many->P s (N s)) (hz:∀ n,k<=n->n<m->fD (P (f+n)) bw) :
 (bS D f m (kind:Int) ts).1.many=D.many /\
 ((∃ nx,k<=nx/\nx<=rows.length/\(bS D f m (kind:Int) ts).2=(nx,0)/\Rest (bS D f m (kind:Int) ts).1 (fx N f nx m)/\Jrn (fx N f nx m) f m kind (cG ts (rows.take nx))/\(D.cut=-1->(bS D f m (kind:Int) ts).1.cut=-1)) \/
 ((bS D f m (kind:Int) ts).2=(0,50)/\(bS D f m (kind:Int) ts).1.off=true/\D.cut≠-1/\Safe (bS D f m (kind:Int) ts).1 P)):=by
 obtain⟨nx,f1,f2,f3,f4,f5,f6⟩:=found (N:=N) (f:=f) (all:=cG ts rows) (k:=k) (m:=m) (kind:=kind) (loadsOf_len hr) (by rw[fK];exact hk) (by rw[fK];exact hle) k1 k2 hm hj;rw[fK] at f2;rw[loadsOf_take] at f6;obtain⟨a1,a2⟩:=h.jopen (kind:=(kind:Int)) aS aS hfm hN f3 f4 f5 (fun n q1 q2=>hz n aS q2);have hun:bS D f m (kind:Int) ts=if da ts=false then (D,0,2)
  else if (bP D f m (kind:Int)).2.2≠0 then ((bP D f m (kind:Int)).1,0,(bP D f m (kind:Int)).2.2)
  else if (dG (bP D f m (kind:Int)).1 f m (kind:Int) (bP D f m (kind:Int)).2.1 ts (bP D f m (kind:Int)).2.1).2≠0 then ((dG (bP D f m (kind:Int)).1 f m (kind:Int) (bP D f m (kind:Int)).2.1 ts (bP D f m (kind:Int)).2.1).1,0,(dG (bP D f m (kind:Int)).1 f m (kind:Int) (bP D f m (kind:Int)).2.1 ts (bP D f m (kind:Int)).2.1).2)
  else ((dG (bP D f m (kind:Int)).1 f m (kind:Int) (bP D f m (kind:Int)).2.1 ts (bP D f m (kind:Int)).2.1).1,(bP D f m (kind:Int)).2.1,0):=rfl
 generalize bP D f m (kind:Int)=R at *;generalize bS D f m (kind:Int) ts=S at *;obtain⟨D1,n1,er⟩:=R;simp only at a1 a2 hun;rw[if_neg (by rw[hr];simp)] at hun;rcases a2 with ⟨c1,c2,c3⟩ | ⟨c1,c2,c3,c4⟩
 · injection c1 with q1 q2;subst q1 q2;rw[if_neg aZ] at hun;have hlen:(rows.take n1).length=n1:=by rw[aA];omega
   have hall:=fall_ok (D:=D1) (N:=fx N f n1 m) (f:=f) (m:=m) (kind:=kind) (ts:=ts) (rows:=rows.take n1) c2.fit.off c2.now (hR.take_ n1) f6 aS k1 k2 hm n1 aS;rw[hlen] at hall;obtain⟨o,ho⟩:=gO D1 n1;rw[hall,if_neg aZ] at hun;simp only at hun;rw[hun];refine⟨by rw[ho];exact a1,.inl ⟨n1,f1,f2,rfl,?_,f6,fun q=>?_⟩⟩
   · rw[ho];exact c2.ops o
   · rw[ho];exact c3 q
 · injection c1 with q1 q2;subst q1 q2;rw[if_pos aZ] at hun;rw[hun];exact⟨a1,.inr ⟨rfl,c2,c3,c4⟩⟩
end
theorem oe (x:Int):-9223372036854775808<=wrap64 x/\wrap64 x<=9223372036854775807:=by unfold wrap64;omega
def divK (a b:Int):Int:=if b=0 then 0 else if b=-1 then wrap64 (-a) else a.tdiv b
def modK (a b:Int):Int:=wrap64 (a - wrap64 (divK a b * b))
def eI (b:Bool):Int:=if b then 1 else 0
def oneK (op a:Int):Int:=if op=5 then wrap64 (-a) else if op=6 then eI (a == 0) else 0
def doK (op a b:Int):Int :=
 if op=7 then wrap64 (a+b) else if op=8 then wrap64 (a - b) else if op=9 then wrap64 (a * b) else if op=10 then divK a b else if op=11 then modK a b
 else if op=12 then eI (a == b) else if op=13 then eI (a != b) else if op=14 then eI (decide (a<b)) else if op=15 then eI (decide (a<=b)) else if op=16 then eI (decide (b<a)) else if op=17 then eI (decide (b<=a))
 else if op=18 then eI ((a != 0) && (b != 0)) else if op=19 then eI ((a != 0) || (b != 0)) else if op=20 then eI ((a != 0) != (b != 0)) else 0
theorem divK_in (ha:-9223372036854775808<=a/\a<=9223372036854775807):-9223372036854775808<=divK a b/\divK a b<=9223372036854775807:=by
 unfold divK
 split
 · omega
 · split
   · exact oe _
   · rename_i h0 h1;have hn:(a.tdiv b).natAbs=a.natAbs / b.natAbs:=Int.natAbs_tdiv a b;have h2:2<=b.natAbs\/b=1:=aS;rcases h2 with h2 | h2
     · have:a.natAbs / b.natAbs<=a.natAbs / 2:=Nat.div_le_div_left h2 aS;omega
     · subst h2;rw[Int.tdiv_one];exact ha
def In64 (z:Int):Prop:=-9223372036854775808<=z/\z<=9223372036854775807
theorem in_ite {c:Prop} [Decidable c](h1:In64 a)(h2:In64 b):In64 (if c then a else b):=by split <;> assumption
theorem flagK_in (x:Bool):In64 (eI x):=by cases x <;> (unfold In64;simp[eI])
theorem doK_in {op:Int}(ha:In64 a):In64 (doK op a b):=by
 have hw:∀ x,In64 (wrap64 x):=oe;have hd:In64 (divK a b):=divK_in ha;unfold doK modK;generalize divK a b=d at *
 repeat' (with_reducible refine in_ite ?_ ?_)
 all_goals first | exact flagK_in _ | exact hw _ | exact hd | (unfold In64;omega)
theorem oneK_in (op a:Int):In64 (oneK op a):=by
 have hw:∀ x,In64 (wrap64 x):=oe;unfold oneK
 repeat' (with_reducible refine in_ite ?_ ?_)
 all_goals first | exact flagK_in _ | exact hw _ | (unfold In64;omega)
theorem grow_any (n:Nat)(h0:0<n)(hn:n<=1000000)(w:World):Ca 279 #[.slice none 0 0,I (n:Nat)] w fun e w'=>∃ g c,e=.returned (.slice (some ⟨g,0,none⟩) 0 c)/\OB w' w.heap.size 5 (some ⟨g,0,none⟩) 0 c []/\Below w.heap.size w w':=by
 obtain⟨ht,⟨i0,hi,hz,hs,hby⟩,hzs,_⟩:=cH;have hold:(Builtin.firstCells i0.size 0 (.slice none 0 0)).run Tryz.prog w.drew=.ok ([]:List Value).toArray w.drew:=by simp[Builtin.firstCells]
 have hrz:∀ ty,(Builtin.append_ #[27,3] ty #[.slice none 0 0,I (n:Nat)]).run Tryz.prog w =
  .ok (.slice (some ⟨w.heap.size,0,none⟩) n (grownCap w n 0 5)) (w.drew.alloc (.cells (([]:List Value).toArray ++ Builtin.zeroCells (Value.int .u8 0).cells n ++ Builtin.zeroCells (Value.int .u8 0).cells (grownCap w n 0 5 - n)) 5)):=fun ty=>by
  have h:=Lib.run_append_grow_zeros (P:=Tryz.prog) w 27 3 ty 5 i0 (.int .u8 0) .i64 .i64 ht Tryz.underlying3 hi hz none 0 0 [] hold n h0 (by rw[hs];omega) aS aS (by rw[hby];omega)
   (by rw[aD];exact growslice_fits h0 (by rw[hby];omega))
  rw[aD] at h;exact h
 have hGn:n<=grownCap w n 0 5:=grownCap_ge w _ _ _;have hG63:=grownCap_le_maxLen w n 0 5 bQ;have hown:∀ w':World,w'.heap[w.heap.size]?=some (.cells (([]:List Value).toArray ++ Builtin.zeroCells (Value.int .u8 0).cells n ++ Builtin.zeroCells (Value.int .u8 0).cells (grownCap w n 0 5 - n)) 5 (0,0)) ->
  OB w' w.heap.size 5 (some ⟨w.heap.size,0,none⟩) 0 (grownCap w n 0 5) []:=fun w' h=>
  ⟨rfl,rfl,.inr ⟨w.heap.size,_,_,rfl,Nat.le_refl _,h,Nat.zero_le _,hG63,by
   rw[Array.size_append,Array.size_append,size_zeroCells,size_zeroCells,hzs]
   show 0+n * 1+_ * 1=_ * 1
   omega,by simp⟩⟩
 have hown2:=hown (w.drew.alloc (.cells (([]:List Value).toArray ++ Builtin.zeroCells (Value.int .u8 0).cells n ++ Builtin.zeroCells (Value.int .u8 0).cells (grownCap w n 0 5 - n)) 5)) (heap_alloc_new w.drew _);clear hold hi hz hs hby hzs ht hown i0;generalize (([]:List Value).toArray ++ Builtin.zeroCells (Value.int .u8 0).cells n ++ Builtin.zeroCells (Value.int .u8 0).cells (grownCap w n 0 5 - n))=C at *;generalize grownCap w n 0 5=G at *;unfold maxLen at hG63;have Hown:=aT hown2;clear hown2;go_enter Tryz.func279,Tryz.ntmps279;go_wp2_with (at_builtin;refine Lib.wpList_append_run _ rfl _ _ _ _ rfl _ _ rfl rfl _ _ (hrz _) ?_);go_ret;exact⟨w.heap.size,G,rfl,Hown.out,bc⟩
theorem mz (n:Nat)(w:World)(h:n<9223372036854775808):Ca 228 #[I n] w fun e w'=>∃ A c,e=.returned (.slice A (digL 9 n).length c)/\OB w' w.heap.size 5 A (digL 9 n).length c (digL 9 n)/\Below w.heap.size w w':=by
 have hs:=fun w=>short_any n w h
 generalize digL 9 n=L at *;clear h;go_enter Tryz.func228,Tryz.ntmps228;go_wp2_with (go_at_call 280;go_call (hs _) as e w1 ⟨A1,c1,rfl,hown,hb⟩);go_ret;exact⟨A1,c1,rfl,hown,hb⟩
theorem u8_wrap (t:Int)(h:t=1\/t=2):bv (UInt8.ofNat t.toNat)=.int .u8 t:=by rcases h with rfl | rfl <;> rfl
theorem pL (A:Option Addr)(n c:Nat)(l:List Int)(w:World)(hl:RI w A n l)(hr:da l=true) :
 Ca 227 #[.slice A n c] w fun e w'=>∃ A N c,e=.returned (.slice A N c)/\OB w' w.heap.size 5 A N c (iA l)/\Below w.heap.size w w':=by
 obtain⟨r1,r2,r3⟩:=fG.1 hr;have hlen:=hl.1;rw[hlen] at r1 r2 r3;have hs:=fun w=>mz n w aS
 have hT:∀ k,k<n->Hid (digL 9 n ++ (l.take k).map (fun t=>UInt8.ofNat t.toNat) ++ [UInt8.ofNat (bj l k).toNat]=digL 9 n ++ (l.take (k+1)).map (fun t=>UInt8.ofNat t.toNat)):=fun k hk=>by
  show _=_
  rw[aO (show k<l.length by omega),List.map_append,aN];unfold bj;rw[ah,ap (show k<l.length by omega)]
  rfl
 have hD:=(gN 9 n).1;have hfin:Hid (iA l=digL 9 n ++ (l.take n).map (fun t=>UInt8.ofNat t.toNat)):=by
  show _=_
  unfold iA;rw[hlen,au aS]
 have hL0:Hid (digL 9 n ++ (l.take 0).map (fun t=>UInt8.ofNat t.toNat)=digL 9 n):=by show _=_;simp
 generalize iA l=B at *;have hlen2:∀ k,k<=n->(digL 9 n ++ (l.take k).map (fun t=>UInt8.ofNat t.toNat)).length=(digL 9 n).length+k:=fun k hk=>by simp[hlen];omega
 have Hlen2:=aT hlen2;clear hlen hr hlen2;generalize hK:(fun k:Nat=>digL 9 n ++ (l.take k).map (fun t=>UInt8.ofNat t.toNat))=K;have HK:∀ k,Hid (digL 9 n ++ (l.take k).map (fun t=>UInt8.ofNat t.toNat)=K k):=fun k=>by rw[<- hK];rfl
 clear hK;go_enter Tryz.func227,Tryz.ntmps227;go_wp2_with ((go_at_call 228;go_call (hs _) as e w1 ⟨A1,c1,rfl,hown,hb⟩);have hbs:=hb.size);go_loopw [3,11] (fun v i wr=>∃ k A2 c2,k<=n/\i=I (k:Nat)/\v=.slice A2 ((digL 9 n).length+k) c2/\Ow bv wr w.heap.size 5 A2 ((digL 9 n).length+k) c2 (K k)/\Below w.heap.size w wr) (fun _ i _=>n - (intOf i).toNat)
 case atStart=>exact⟨0,A1,c1,aS,rfl,rfl,by rw[<- (HK 0).out,hL0.out];exact hown,hb⟩
 case round=>
  obtain⟨k,A2,c2,hk,rfl,rfl,hown2,hbel⟩:=hrel;have hbs2:=hbel.size
  by_cases hlt:k<n
  · obtain⟨b,o,rfl,_,hc⟩:=(hl.below hbel aW).at_ hlt;have h12:=r1 k hlt;have hkT:=hT k hlt;have hbv:=aT (u8_wrap _ h12);have hkL:Hid (K k ++ [UInt8.ofNat (bj l k).toNat]=K (k+1)):=by show _=_;rw[<- (HK k).out,<- (HK (k+1)).out];exact hkT.out
    clear r1 hT hkT HK hL0;rcases h12 with h | h
    all_goals
     rw[h] at hc hkL;clear h hbv
    · go_wp2_with (at_builtin;refine dR rfl rfl cH dg (s:=.tmp 15) (N:=(digL 9 n).length+(k+1)) (L:=K (k+1)) rfl (hown2.below (b:=wr.heap.size) bc br) rfl (k:=[(1:UInt8)]) (Rd.of_block (l:=[(1:UInt8)]) (dP _ _ aZ) rfl) rfl (hkL.out) bQ aS br ?_;intro A5 c5 w5 hown5 hg5 hat5 hb5);replace hb5:=bO (a:=w) (B:=w.heap.size) bc hb5 br;have hb5s:=hb5.size;go_roundw
      case rel=>exact⟨k+1,A5,c5,aS,by go_num,rfl,hown5,hb5⟩
      case measure=>simp[intOf];omega
    · go_wp2_with (at_builtin;refine dR rfl rfl cH dg (s:=.tmp 15) (N:=(digL 9 n).length+(k+1)) (L:=K (k+1)) rfl (hown2.below (b:=wr.heap.size) bc br) rfl (k:=[(2:UInt8)]) (Rd.of_block (l:=[(2:UInt8)]) (dP _ _ aZ) rfl) rfl (hkL.out) bQ aS br ?_;intro A5 c5 w5 hown5 hg5 hat5 hb5);replace hb5:=bO (a:=w) (B:=w.heap.size) bc hb5 br;have hb5s:=hb5.size;go_roundw
      case rel=>exact⟨k+1,A5,c5,aS,by go_num,rfl,hown5,hb5⟩
      case measure=>simp[intOf];omega
  · have hkn:k=n:=aS;subst hkn;have hF:Hid (B=K k):=by show _=_;rw[hfin.out];exact (HK k).out
    clear r1 hT HK hfin;go_wp2;go_ret;exact⟨A2,_,c2,rfl,by rw[hF.out];exact hown2,hbel⟩
def sumK (f:Nat->Nat):Nat->Nat
 | 0=>0
 | k+1=>sumK f k+f k
def catK (L:Nat->List UInt8):Nat->List UInt8
 | 0=>[]
 | k+1=>catK L k ++ L k
theorem sumK_le (f:Nat->Nat)(B:Nat):∀ k,(∀ i,i<k->f i<=B)->sumK f k<=B * k:=by
 intro k
 induction k with
 | zero=>intro _;simp[sumK]
 | succ k ih=>
   intro h;have h1:=ih (fun i hi=>h i aS);have h2:=h k aS
   show sumK f k+f k<=B * (k+1)
   rw[Nat.mul_succ];omega
theorem sumK_mono (f:Nat->Nat){j:Nat}(h:j<=k):sumK f j<=sumK f k:=by
 induction k with
 | zero=>rw[show j=0 by omega];exact Nat.le_refl _
 | succ k ih=>
   by_cases e:j=k+1
   · rw[e];exact Nat.le_refl _
   · exact ae (ih aS) (Nat.le_add_right _ _)
theorem catK_len (L:Nat->List UInt8)(f:Nat->Nat)(k:Nat)(h:∀ i,i<k->(L i).length=f i):(catK L k).length=sumK f k:=by
 induction k with
 | zero=>rfl
 | succ k ih=>show (catK L k ++ L k).length=_;rw[aw,ih (fun i hi=>h i aS),h k aS];rfl
theorem concat_any (b m c:Nat)(Av:Nat->Option Addr)(nv cv:Nat->Nat)(L:Nat->List UInt8)(w:World)(hm:m<=10)(hb:b<w.heap.size)
 (hrow:∀ i,i<m->w.cell? ⟨b,i,none⟩=some (.slice (Av i) (nv i) (cv i))) (hrd:∀ i,i<m->RB w (Av i) (nv i) (L i)) (hn:∀ i,i<m->nv i<=1000) (h1:0<sumK nv m) :
 Ca 226 #[.slice (some ⟨b,0,none⟩) m c] w fun e w'=>∃ A N c,e=.returned (.slice A N c)/\OB w' w.heap.size 5 A N c (catK L m)/\Below w.heap.size w w':=by
 have hle:=sumK_le nv 1000 m hn;have hS:∀ k,Hid (sumK nv (k+1)=sumK nv k+nv k):=fun k=>rfl
 have hmono:=fun k (h:k<=m)=>sumK_mono nv h
 have hcl:∀ k,k<=m->(catK L k).length=sumK nv k:=fun k hk=>catK_len L nv k (fun i hi=>(hrd i aS).1)
 have Hcl:=aT hcl;clear hcl;have hC:∀ k,Hid (catK L k ++ L k=catK L (k+1)):=fun k=>rfl
 have hS0:Hid (sumK nv 0=0):=rfl;have hC0:Hid (catK L 0=[]):=rfl;generalize catK L=K at *;generalize sumK nv=S at *;go_enter Tryz.func226,Tryz.ntmps226;go_wp2;go_loop [3,11] (fun v i=>∃ k:Nat,k<=m/\i=I (k:Nat)/\v=I (S k:Nat)) (fun _ i=>m - (intOf i).toNat)
 case atStart=>exact⟨0,aS,rfl,by rw[hS0.out];rfl⟩
 case round=>
  obtain⟨k,hk,rfl,rfl⟩:=hrel
  by_cases hlt:k<m
  · have hc:=hrow k hlt;have hs:=hS k;have hnk:=hn k hlt;have hmk:=hmono k hk;clear hrow hS hC hmono hrd hn;generalize nv k=x at *;go_wp2;go_round
    case rel=>exact⟨k+1,aS,by go_num,by rw[hs.out];go_num⟩
    case measure=>simp[intOf];omega
  · have hkm:k=m:=aS;subst hkm;have hg:=fun w=>grow_any (S k) h1 aS w
    go_wp2_with (go_at_call 279;go_call (hg _) as e w1 ⟨g,c1,rfl,hown,hb1⟩);clear hg;go_loopw [6,27] (fun v i wr=>∃ (j:Nat) (A2:Option Addr) (c2:Nat),j<=k/\i=I (j:Nat)/\v=.slice A2 (S j) c2/\Ow bv wr w.heap.size 5 A2 (S j) c2 (K j)/\Below w.heap.size w wr) (fun _ i _=>k - (intOf i).toNat)
    case atStart=>exact⟨0,some ⟨g,0,none⟩,c1,aS,rfl,by rw[hS0.out],by rw[hS0.out,hC0.out];exact hown,hb1⟩
    case round=>
     obtain⟨j,A2,c2,hj,rfl,rfl,hown2,hbel⟩:=hrel;have hbs:=hbel.size
     by_cases hlt2:j<k
     · have hc:=(hbel.cell (p:=⟨b,j,none⟩) hb).trans (hrow j hlt2);have hrj:=(hrd j hlt2).below hbel aW;have hs:=hS j;have hnk:=hn j hlt2;have hmk:=hmono j hj;have hkL:=hC j;have hmk2:=hmono (j+1) aS;clear hrow hS hC hmono hrd hn hown hb1;generalize nv j=x at *;generalize Av j=A3 at *;generalize cv j=c3 at *;go_wp2_with (at_builtin;refine dR rfl rfl cH dg (s:=.tmp 31) (N:=S (j+1)) (L:=K (j+1)) rfl hown2 rfl (k:=L j) hrj.rd hs.out.symm hkL.out bQ aS aS ?_;intro A5 c5 w5 hown5 hg5 hat5 hb5);replace hb5:=bO (a:=w) (B:=w.heap.size) bc hb5 br;have hb5s:=hb5.size;go_roundw
       case rel=>exact⟨j+1,A5,c5,aS,by go_num,rfl,hown5,hb5⟩
       case measure=>simp[intOf];omega
     · have hjk:j=k:=aS;subst hjk;clear hrow hS hC hmono hrd hn hown hb1;go_wp2;go_ret;exact⟨A2,_,c2,rfl,hown2,hbel⟩
theorem concat4 (b c n0 n1 n2 n3 c0 c1 c2 c3:Nat)(A0 A1 A2 A3:Option Addr)(L0 L1 L2 L3:List UInt8)(w:World)(hb:Blk w b 27 [.slice A0 n0 c0,.slice A1 n1 c1,.slice A2 n2 c2,.slice A3 n3 c3])
 (r0:RB w A0 n0 L0) (r1:RB w A1 n1 L1) (r2:RB w A2 n2 L2) (r3:RB w A3 n3 L3) (hn:n0<=1000/\n1<=1000/\n2<=1000/\n3<=1000) (h1:0<n0) :
 Ca 226 #[.slice (some ⟨b,0,none⟩) 4 c] w fun e w'=>∃ A N c,e=.returned (.slice A N c)/\OB w' w.heap.size 5 A N c (L0 ++ L1 ++ L2 ++ L3)/\Below w.heap.size w w':=by
 have h:=concat_any b 4 c (fun i=>[A0,A1,A2,A3].getD i none) (fun i=>[n0,n1,n2,n3].getD i 0) (fun i=>[c0,c1,c2,c3].getD i 0) (fun i=>[L0,L1,L2,L3].getD i []) w aS hb.lt
  (fun i hi=>by
   rw[hb.cell]
   match i,hi with | 0,_=>rfl | 1,_=>rfl | 2,_=>rfl | 3,_=>rfl)
  (fun i hi=>by
   match i,hi with | 0,_=>exact r0 | 1,_=>exact r1 | 2,_=>exact r2 | 3,_=>exact r3)
  (fun i hi=>by
   match i,hi with | 0,_=>exact hn.1 | 1,_=>exact hn.2.1 | 2,_=>exact hn.2.2.1 | 3,_=>exact hn.2.2.2)
  (by show 0<0+n0+n1+n2+n3;omega)
 have e:catK (fun i=>[L0,L1,L2,L3].getD i []) 4=L0 ++ L1 ++ L2 ++ L3:=by show [] ++ L0 ++ L1 ++ L2 ++ L3=_;rw[List.nil_append]
 rw[e] at h;exact h
structure eO (p:PV):Prop where
 cells:∀ x ∈ p.cells,-9223372036854775808<=x.2/\x.2<=9223372036854775807
 code:∀ x ∈ p.code,x.a<=9223372036854775807/\x.b<=9223372036854775807/\x.c<=9223372036854775807/\-9223372036854775808<=x.k/\x.k<=9223372036854775807
theorem mA (n:Int)(h0:0<=n)(h1:n<=9223372036854775807)(w:World):Ca 228 #[I n] w fun e w'=>∃ A c,e=.returned (.slice A (digL 9 n.toNat).length c)/\OB w' w.heap.size 5 A (digL 9 n.toNat).length c (digL 9 n.toNat)/\Below w.heap.size w w':=by
 have h:=mz n.toNat w aS;rw[show ((n.toNat:Nat):Int)=n by omega] at h;exact h
theorem pM (l:List Int)(h:l.length<=8):(iA l).length<=18/\0<(iA l).length:=by
 have:=gN 9 l.length;unfold iA;rw[aw,az];omega
theorem encode_ok (x:PA)(p:PV)(w:World)(h:cC w x p)(hw:eO p)(hm:mayB p=true) :
 Ca 155 #[.agg #[.slice x.A1 x.n1 x.c1,.slice x.A2 x.n2 x.c2,I p.regs,.slice x.A3 x.n3 x.c3,.slice x.A4 x.n4 x.c4]] w fun e w'=>∃ A N c,e=.returned (.tuple #[.slice A N c,I 0])/\OB w' w.heap.size 5 A N c (gw p)/\Below w.heap.size w w':=by
 have hmay:=fun w h=>jT x p w h
 rw[hm] at hmay;obtain⟨m1,m2,m3,m4,m5,m6,m7,m8⟩:=dV.1 hm;clear hm;have hsub:=h;obtain⟨A1,n1,c1,A2,n2,c2,A3,n3,c3,A4,n4,c4⟩:=x;obtain⟨ins,outs,regs,cells,code⟩:=p;obtain⟨r1,r2,r3,r4,k1,k2,k3,k4⟩:=h;simp only at r1 r2 r3 r4 k1 k2 k3 k4 m1 m2 m3 m4 m5 m6 m7 m8 hmay ⊢;have ht1:=fun w h=>pL A1 n1 c1 ins w h m1
 have ht2:=fun w h=>pL A2 n2 c2 outs w h m2
 have hs1:=fun w=>mA regs m3 aS w
 have hs2:=fun w=>mz n3 w (by have:=r3.1;omega)
 have hs4:=fun w=>mz n4 w (by have:=r4.1;omega)
 have l1:=pM ins (fG.1 m1).2.2;have l2:=pM outs (fG.1 m2).2.2;have l3:=(gN 9 regs.toNat).1;have l4:=(gN 9 n3).1;have l5:=(gN 9 n4).1;go_enter Tryz.func155,Tryz.ntmps155;go_wp2_with ((go_at_call 153;go_call (hmay _ (hsub.below ((Below.refl _ _).alloc aW _) aW)) as e w1 ⟨rfl,hb1⟩);have hk1:=Blk.below (w':=w1) (g:=w.heap.size) (t:=26) (cs:=[.slice A1 n1 c1,.slice A2 n2 c2,I regs,.slice A3 n3 c3,.slice A4 n4 c4]) bI hb1 aZ;replace hb1:=bO (a:=w) (B:=w.heap.size) bc hb1 br;have hb1s:=hb1.size;have hg1:=hk1.lt;obtain⟨g0,g1,g2,g3,g4⟩:=blk5 hk1);go_region_held3 (fun w'=>w'.cell? ⟨w.heap.size,0,none⟩=some (.slice A1 n1 c1)/\w'.cell? ⟨w.heap.size,1,none⟩=some (.slice A2 n2 c2)/\w'.cell? ⟨w.heap.size,2,none⟩=some (I regs)/\w'.cell? ⟨w.heap.size,3,none⟩=some (.slice A3 n3 c3)) (first | go_keep | (refine⟨?_,?_,?_,?_⟩ <;> assumption)) (first | ((go_at_call 227;(with_reducible refine (ht1 _ (r1.below (B:=w.heap.size) bc aW)).mono ?_);rintro e w2 ⟨B1,N1,d1,rfl,own1,hb2⟩);have hk2:=Blk.below (w:=w1.drew) hk1 hb2 br;obtain⟨g20,g21,g22,g23,g24⟩:=blk5 hk2;replace hb2:=bO (a:=w) (B:=w.heap.size) bc hb2 br;have hb2s:=hb2.size) | ((go_at_call 227;(with_reducible refine (ht2 _ (r2.below (B:=w.heap.size) bc aW)).mono ?_);rintro e w3 ⟨B2,N2,d2,rfl,own2,hb3⟩);have hk3:=hk2.below (w':=w3) hb3 hk2.lt;obtain⟨g30,g31,g32,g33,g34⟩:=blk5 hk3;have own1a:=own1.below hb3 aW;replace hb3:=bO (a:=w) (B:=w.heap.size) bc hb3 br;have hb3s:=hb3.size) | ((go_at_call 228;(with_reducible refine (hs1 _).mono ?_);rintro e w4 ⟨B3,d3,rfl,own3,hb4⟩);have hk4:=hk3.below (w':=w4) hb4 hk3.lt;obtain⟨g40,g41,g42,g43,g44⟩:=blk5 hk4;have own1b:=own1a.below hb4 aW;have own2b:=own2.below hb4 aW;replace hb4:=bO (a:=w) (B:=w.heap.size) bc hb4 br;have hb4s:=hb4.size) | ((go_at_call 228;(with_reducible refine (hs2 _).mono ?_);rintro e w5 ⟨B4,d4,rfl,own4,hb5⟩);have hk5:=hk4.below (w':=w5) hb5 hk4.lt;obtain⟨g50,g51,g52,g53,g54⟩:=blk5 hk5;have own1c:=own1b.below hb5 aW;have own2c:=own2b.below hb5 aW;have own3c:=own3.below hb5 aW;have q1:N1<=18/\0<N1:=(by rw[<- own1c.1];exact l1);have q2:N2<=18/\0<N2:=(by rw[<- own2c.1];exact l2);replace hb5:=bO (a:=w) (B:=w.heap.size) bc hb5 br;have hb5s:=hb5.size) | ((go_at_call 226;go_call (concat4 _ 4 N1 N2 _ _ d1 d2 d3 d4 B1 B2 B3 B4 _ _ _ _ _ (Blk.top _ rfl rfl) (own1c.rd.rb.below (B:=w5.heap.size) bc aW) (own2c.rd.rb.below (B:=w5.heap.size) bc aW) (own3c.rd.rb.below (B:=w5.heap.size) bc aW) (own4.rd.rb.below (B:=w5.heap.size) bc aW) aS aS) as e w6 ⟨B6,N6,d6,rfl,own6,hb6⟩);have hk6:=Blk.below (w':=w6) (g:=w.heap.size) (t:=26) (cs:=[.slice A1 n1 c1,.slice A2 n2 c2,I regs,.slice A3 n3 c3,.slice A4 n4 c4]) (Blk.alloc hk5 _) hb6 br;obtain⟨g60,g61,g62,g63,g64⟩:=blk5 hk6;replace hb6:=bO (a:=w) (B:=w.heap.size) bc hb6 br;have hb6s:=hb6.size));have own7:=own6.rebase (base':=w.heap.size) br;have hHB:Hid (iA ins ++ iA outs ++ digL 9 regs.toNat ++ digL 9 n3=headBs ⟨ins,outs,regs,cells,code⟩):=by
  show _=_
  unfold headBs;rw[r3.1]
 rw[hHB.out] at own7;have hN6:N6<=100:=by
  have h9:=own6.1;simp only[aw] at h9;omega
 have hszA:=hk6.lt;clear own6 own1 own2 own3 own4 own1a own1b own1c own2b own2c own3c hk2 hk3 hk4 hk5 hk1 g0 g1 g2 g3 g4 g20 g21 g22 g23 g24 g30 g31 g32 g33 g34 g40 g41 g42 g43 g44 g50 g51 g52 g53 g54 ht1 ht2 hs1 hs2 hmay q1 q2 l1 l2 l3 l4 hb1 hb2 hb3 hb4 hb5 hb1s hb2s hb3s hb4s hb5s hg1;have hP:Hid (headBs ⟨ins,outs,regs,cells,code⟩ ++ cells.flatMap iz ++ digL 9 n4 ++ code.flatMap fT=gw ⟨ins,outs,regs,cells,code⟩):=by
  show _=_
  unfold gw;rw[r4.1]
 generalize headBs ⟨ins,outs,regs,cells,code⟩=HB at *;have hcat:∀ (k:Nat) (x:Int × Int),cells[k]?=some x->Hid (HB ++ (cells.take k).flatMap iz ++ [UInt8.ofNat x.1.toNat] ++ digL 9 (zz x.2)=HB ++ (cells.take (k+1)).flatMap iz):=fun k x hx=>by
  show _=_
  obtain⟨hk,e⟩:=List.getElem?_eq_some_iff.1 hx;rw[aO hk,List.flatMap_append,e];simp[iz]
 have hval:∀ (k:Nat) (x:Int × Int),cells[k]?=some x->x.1=1\/x.1=2:=fun k x hx=>by
  obtain⟨hk,e⟩:=List.getElem?_eq_some_iff.1 hx;have h9:=m7 k hk;rw[jD hx] at h9;unfold fN at h9;simp at h9;omega
 have hz0:Hid (HB ++ (cells.take 0).flatMap iz=HB):=by show _=_;simp
 have m5':n3<=60:=by rw[<- r3.1];exact m5
 have m6':n4<=2048:=by rw[<- r4.1];exact m6
 go_wp2;go_loopw [4,31] (fun v i wr=>∃ (k N:Nat) (B:Option Addr) (d:Nat),k<=n3/\i=I (k:Nat)/\v=.slice B N d/\N<=100+11 * k/\Ow bv wr w.heap.size 5 B N d (HB ++ (cells.take k).flatMap iz)/\Below w.heap.size w wr/\w.heap.size<wr.heap.size /\
  Blk wr w.heap.size 26 [.slice A1 n1 c1,.slice A2 n2 c2,I regs,.slice A3 n3 c3,.slice A4 n4 c4]) (fun _ i _=>n3 - (intOf i).toNat)
 case atStart=>exact⟨0,N6,B6,d6,aS,rfl,rfl,aS,by rw[hz0.out];exact own7,hb6,hszA,hk6⟩
 case round=>
  clear own7 hk6 hszA hb6 hb6s g60 g61 g62 g63 g64;obtain⟨k,N,B,d,hk,rfl,rfl,hN,hown,hbel,hsz,hblk⟩:=hrel;have hbs:=hbel.size
  by_cases hlt:k<n3
  · obtain⟨b,o,x,rfl,hbl,hx,hc⟩:=(r3.below hbel aW).at_ iy aS hlt;have h0:wr.cell? ⟨b,o+k * 2,none⟩=some (I x.1):=hc 0 aS;have h1:wr.cell? ⟨b,o+k * 2+1,none⟩=some (I x.2):=hc 1 aS;have h12:=hval k x hx;have hcx:=hcat k x hx;have hwx:=hw.cells x (List.mem_of_getElem? hx);have hzig:=fun w=>zig_any x.2 w hwx.1 hwx.2
    have hd:=(gN 9 (zz x.2)).1;clear hc hx hcat hval hz0;obtain⟨t,f⟩:=x;simp only at h0 h1 h12 hcx hzig hd;generalize HB ++ (cells.take k).flatMap iz=X at *;generalize digL 9 (zz f)=D at *;rcases h12 with rfl | rfl
    · go_wp2;go_region_held3 (fun w'=>w'.cell? ⟨wr.heap.size,0,none⟩=some (I 1)/\w'.cell? ⟨wr.heap.size,1,none⟩=some (I f)) (first | go_keep | (refine⟨?_,?_⟩ <;> assumption)) (first | ((go_at_call 229;go_call (hzig _) as e w8 ⟨A8,c8,rfl,own8,hb8⟩);have own7a:=own7.below hb8 aW;have hk8:=hk7.below (w':=w8) hb8 hk7.lt;have g80:=hk8.c0;have g81:=hk8.c1;have hb8r:=hb8;replace hb8:=bO (a:=w) (B:=w.heap.size) bc hb8 br;have hb8s:=hb8.size) | (refine eF rfl rfl cH dg (s:=.tmp 35) (N:=N+1) (L:=X ++ [1]) rfl (hown.below (b:=wr.heap.size) bc aW) rfl (k:=[1]) (Rd.of_block (l:=[1]) (dP _ _ aZ) rfl) rfl rfl bQ aS br ?_;intro A7 c7 w7 own7 hg7 hat7 hb7;have hne7:B.map (·.block)≠some wr.heap.size:=(fun e=>by have:=(hown.lt _ e).2;omega);have hk7:Blk w7 wr.heap.size 187 [I 1,I f]:=Blk.grown bI hg7 hne7;have g70:=hk7.c0;have g71:=hk7.c1;have hne7b:=hown.ne_ hblk aU;have hk7b:Blk w7 w.heap.size 26 [.slice A1 n1 c1,.slice A2 n2 c2,I regs,.slice (some ⟨b,o,none⟩) n3 c3,.slice A4 n4 c4]:=Blk.grown bI hg7 hne7b;replace hb7:=bO (a:=w) (B:=w.heap.size) bc hb7 br;have hb7s:=hb7.size) | (refine eF rfl rfl cH dg (s:=.tmp 40) (N:=N+1+D.length) (L:=X ++ [1] ++ D) rfl (own7a.below (b:=w8.heap.size) bc aW) rfl (k:=D) (own8.rd.rb.below (B:=w8.heap.size) bc aW).rd rfl rfl bQ aS br ?_;intro A9 c9 w9 own9 hg9 hat9 hb9;have hne9:=own7.ne_ hk7 aU;have hk9:Blk w9 wr.heap.size 187 [I 1,I f]:=Blk.grown bI hg9 hne9;have g90:=hk9.c0;have g91:=hk9.c1;have hne9b:=own7.ne_ hk7b aU;have hk8b:=hk7b.below (w':=w8) hb8r hk7b.lt;have hk9b:Blk w9 w.heap.size 26 [.slice A1 n1 c1,.slice A2 n2 c2,I regs,.slice (some ⟨b,o,none⟩) n3 c3,.slice A4 n4 c4]:=Blk.grown bI hg9 hne9b;replace hb9:=bO (a:=w) (B:=w.heap.size) bc hb9 br;have hb9s:=hb9.size))
      all_goals
       go_wp2;go_roundw
       case rel=>exact⟨k+1,N+1+D.length,A9,c9,aS,by go_num,rfl,aS,by rw[<- hcx.out];exact own9,hb9,hk9b.lt,hk9b⟩
       case measure=>simp[intOf];omega
    · go_wp2;go_region_held3 (fun w'=>w'.cell? ⟨wr.heap.size,0,none⟩=some (I 2)/\w'.cell? ⟨wr.heap.size,1,none⟩=some (I f)) (first | go_keep | (refine⟨?_,?_⟩ <;> assumption)) (first | ((go_at_call 229;go_call (hzig _) as e w8 ⟨A8,c8,rfl,own8,hb8⟩);have own7a:=own7.below hb8 aW;have hk8:=hk7.below (w':=w8) hb8 hk7.lt;have g80:=hk8.c0;have g81:=hk8.c1;have hb8r:=hb8;replace hb8:=bO (a:=w) (B:=w.heap.size) bc hb8 br;have hb8s:=hb8.size) | (refine eF rfl rfl cH dg (s:=.tmp 35) (N:=N+1) (L:=X ++ [2]) rfl (hown.below (b:=wr.heap.size) bc aW) rfl (k:=[2]) (Rd.of_block (l:=[2]) (dP _ _ aZ) rfl) rfl rfl bQ aS br ?_;intro A7 c7 w7 own7 hg7 hat7 hb7;have hne7:B.map (·.block)≠some wr.heap.size:=(fun e=>by have:=(hown.lt _ e).2;omega);have hk7:Blk w7 wr.heap.size 187 [I 2,I f]:=Blk.grown bI hg7 hne7;have g70:=hk7.c0;have g71:=hk7.c1;have hne7b:=hown.ne_ hblk aU;have hk7b:Blk w7 w.heap.size 26 [.slice A1 n1 c1,.slice A2 n2 c2,I regs,.slice (some ⟨b,o,none⟩) n3 c3,.slice A4 n4 c4]:=Blk.grown bI hg7 hne7b;replace hb7:=bO (a:=w) (B:=w.heap.size) bc hb7 br;have hb7s:=hb7.size) | (refine eF rfl rfl cH dg (s:=.tmp 40) (N:=N+1+D.length) (L:=X ++ [2] ++ D) rfl (own7a.below (b:=w8.heap.size) bc aW) rfl (k:=D) (own8.rd.rb.below (B:=w8.heap.size) bc aW).rd rfl rfl bQ aS br ?_;intro A9 c9 w9 own9 hg9 hat9 hb9;have hne9:=own7.ne_ hk7 aU;have hk9:Blk w9 wr.heap.size 187 [I 2,I f]:=Blk.grown bI hg9 hne9;have g90:=hk9.c0;have g91:=hk9.c1;have hne9b:=own7.ne_ hk7b aU;have hk8b:=hk7b.below (w':=w8) hb8r hk7b.lt;have hk9b:Blk w9 w.heap.size 26 [.slice A1 n1 c1,.slice A2 n2 c2,I regs,.slice (some ⟨b,o,none⟩) n3 c3,.slice A4 n4 c4]:=Blk.grown bI hg9 hne9b;replace hb9:=bO (a:=w) (B:=w.heap.size) bc hb9 br;have hb9s:=hb9.size))
      all_goals
       go_wp2;go_roundw
       case rel=>exact⟨k+1,N+1+D.length,A9,c9,aS,by go_num,rfl,aS,by rw[<- hcx.out];exact own9,hb9,hk9b.lt,hk9b⟩
       case measure=>simp[intOf];omega
  · have hkn:k=n3:=aS;subst hkn;obtain⟨g0,g1,g2,g3,g4⟩:=blk5 hblk;have hHC:Hid (HB ++ (cells.take k).flatMap iz=HB ++ cells.flatMap iz):=by
     show _=_
     rw[au (by have:=r3.1;omega)]
    rw[hHC.out] at hown;generalize HB ++ cells.flatMap iz=HC at *;generalize hD4:digL 9 n4=D4 at *;clear hcat hval hz0;go_wp2_with (first | ((go_at_call 228;go_call (hs4 _) as e w8 ⟨A8,c8,rfl,row8,hb8⟩);have own8:=hown.below hb8 aW;have hk8:=hblk.below (w':=w8) hb8 hblk.lt;obtain⟨y80,y81,y82,y83,y84⟩:=blk5 hk8;replace hb8:=bO (a:=w) (B:=w.heap.size) bc hb8 br;have hb8s:=hb8.size) | (at_builtin;refine dR rfl rfl cH dg (s:=.tmp 46) (N:=N+D4.length) (L:=HC ++ D4) rfl own8 rfl (k:=D4) row8.rd rfl rfl bQ aS br ?_;intro A9 c9 w9 own9 hg9 hat9 hb9;have hk9:=Blk.grown hk8 hg9 (own8.ne_ hk8 aU);obtain⟨y90,y91,y92,y93,y94⟩:=blk5 hk9;replace hb9:=bO (a:=w) (B:=w.heap.size) bc hb9 br;have hb9s:=hb9.size));have hfin:Hid (HC ++ D4 ++ (code.take n4).flatMap fT=gw ⟨ins,outs,regs,cells,code⟩):=by
     show _=_
     rw[au (by have:=r4.1;omega)];exact hP.out
    have hszB:=hk9.lt;have hN9:N+D4.length<=1000:=aS;generalize N+D4.length=N9 at *;have hz0:Hid (HC ++ D4 ++ (code.take 0).flatMap fT=HC ++ D4):=by show _=_;simp
    generalize HC ++ D4=HB at *;clear hown hbel hsz hblk hk8 own8 row8 hb8 y80 y81 y82 y83 y84 hs4 g0 g1 g2 g3 g4 hat9 hg9 hb8s hbs;go_loopw [4,55] (fun v i wr=>∃ (j N:Nat) (B:Option Addr) (d:Nat),j<=n4/\i=I (j:Nat)/\v=.slice B N d/\N<=1000+41 * j/\Ow bv wr w.heap.size 5 B N d (HB ++ (code.take j).flatMap fT)/\Below w.heap.size w wr/\w.heap.size<wr.heap.size /\
     Blk wr w.heap.size 26 [.slice A1 n1 c1,.slice A2 n2 c2,I regs,.slice A3 k c3,.slice A4 n4 c4]) (fun _ i _=>n4 - (intOf i).toNat)
    case atStart=>exact⟨0,N9,A9,c9,aS,rfl,rfl,aS,by rw[hz0.out];exact own9,hb9,hszB,hk9⟩
    case round=>
     clear own9 hk9 hszB hb9 hb9s y90 y91 y92 y93 y94 hN9 hz0;obtain⟨j,N,B,d,hj,rfl,rfl,hN,hown,hbel,hsz,hblk⟩:=hrel;have hbs:=hbel.size;obtain⟨y10,y11,y12,y13,y14⟩:=blk5 hblk
     by_cases hlt:j<n4
     · obtain⟨b,o,x,rfl,hbl,hx,hc⟩:=(r4.below hbel aW).at_ gX aS hlt;have hwx:=hw.code x (List.mem_of_getElem? hx);have hin:insB x=true:=by
        have h9:=m8 j (by rw[r4.1];exact hlt)
        rwa [gY hx] at h9
       have hcx:Hid (HB ++ (code.take j).flatMap fT ++ fT x=HB ++ (code.take (j+1)).flatMap fT):=by
        show _=_
        obtain⟨hk,e⟩:=List.getElem?_eq_some_iff.1 hx;rw[aO hk,List.flatMap_append,e];simp
       obtain⟨op,xa,xb,xc,xk⟩:=x;have e0:wr.cell? ⟨b,o+j * 5,none⟩=some (I op):=hc 0 aS;have e1:wr.cell? ⟨b,o+j * 5+1,none⟩=some (I xa):=hc 1 aS;have e2:wr.cell? ⟨b,o+j * 5+2,none⟩=some (I xb):=hc 2 aS;have e3:wr.cell? ⟨b,o+j * 5+3,none⟩=some (I xc):=hc 3 aS;have e4:wr.cell? ⟨b,o+j * 5+4,none⟩=some (I xk):=hc 4 aS;obtain⟨i1,i2,i3,i4,i5,i6,i7⟩:InsOk ⟨op,xa,xb,xc,xk⟩:=of_decide_eq_true hin;simp only at hwx i1 i2 i3 i4 hcx;have hop:1<=op/\op<=32:=by
        by_cases h9:1<=op/\op<=32
        · exact h9
        · exact absurd (cls_0 aS) i1
       have hA:=fun w=>mA xa i2 hwx.1 w
       have hB:=fun w=>mA xb i3 hwx.2.1 w
       have hC:=fun w=>mA xc i4 hwx.2.2.1 w
       have hK:=fun w=>zig_any xk w hwx.2.2.2.1 hwx.2.2.2.2
       have dA:=(gN 9 xa.toNat).1;have dB:=(gN 9 xb.toNat).1;have dC:=(gN 9 xc.toNat).1;have dK:=(gN 9 (zz xk)).1;have hf:=fun w=>pn op w
       unfold ma at hf;have hle:=cls_le op;have hq:=aT (show cls op=cls op from rfl);generalize hqq:cls op=q at hf hle i1;have hq:Hid (cls op=q):=hqq;have hw8:IntKind.u8.wrap op=op:=by simp[IntKind.wrap,IntKind.bits,IntKind.signed];omega
       have hbv:Hid ((#[Value.int .u8 op]:Array Value).toList=[UInt8.ofNat op.toNat].map bv):=by
        show [Value.int .u8 op]=[bv (UInt8.ofNat op.toNat)]
        unfold bv;rw[UInt8.toNat_ofNat_of_lt' lW,show ((op.toNat:Nat):Int)=op by omega]
       have o1:=hop.1;have o2:=hop.2;have f92:bits .and .i64 9 2=0:=by decide
       have f94:bits .and .i64 9 4=0:=by decide
       have f98:bits .and .i64 9 8=8:=by decide
       have f32:bits .and .i64 3 2=2:=by decide
       have f34:bits .and .i64 3 4=0:=by decide
       have f38:bits .and .i64 3 8=0:=by decide
       have f72:bits .and .i64 7 2=2:=by decide
       have f74:bits .and .i64 7 4=4:=by decide
       have f78:bits .and .i64 7 8=0:=by decide
       have f152:bits .and .i64 15 2=2:=by decide
       have f154:bits .and .i64 15 4=4:=by decide
       have f158:bits .and .i64 15 8=8:=by decide
       clear hc hx hin i5 i6 i7 hop hqq hwx m7 m8 hw r3;generalize HB ++ (code.take j).flatMap fT=X at *;generalize hDA:digL 9 xa.toNat=DA at *;generalize hDB:digL 9 xb.toNat=DB at *;generalize hDC:digL 9 xc.toNat=DC at *;generalize hDK:digL 9 (zz xk)=DK at *;have HDA:=aT hDA;have HDB:=aT hDB;have HDC:=aT hDC;have HDK:=aT hDK;clear hDA hDB hDC hDK;rcases (show q=1\/q=2\/q=3\/q=4 by omega) with rfl | rfl | rfl | rfl
       · have hf':∀ w,Ca 230 #[I op] w fun e w'=>e=.returned (I 9)/\w=w':=hf
         have hcat:Hid (X ++ [UInt8.ofNat op.toNat] ++ DA ++ DK=HB ++ (code.take (j+1)).flatMap fT):=by
          show _=_
          rw[<- hcx.out];unfold fT hasK;rw[hq.out,HDA.out,HDB.out,HDC.out,HDK.out];simp
         clear hf hcx hq;go_wp2_with (go_at_call 230;go_call (hf' _) as e w2 ⟨rfl,rfl⟩);go_region_held3 (fun w'=>w'.cell? ⟨wr.heap.size,0,none⟩=some (I op)/\w'.cell? ⟨wr.heap.size,1,none⟩=some (I xa)) (first | go_keep | (refine⟨?_,?_⟩ <;> assumption)) (first | ((go_at_call 228;go_call (hA _) as e w8 ⟨A8,c8,rfl,row8,hb8⟩);have own8:=own7.below hb8 aW;have hk8:=hk7.below (w':=w8) hb8 hk7.lt;have hp8:=hp7.below (w':=w8) hb8 hp7.lt;obtain⟨y80,y81,y82,y83,y84⟩:=blk5 hk8;replace hb8:=bO (a:=w) (B:=w.heap.size) bc hb8 br;have hb8s:=hb8.size) | (refine eF rfl rfl cH dg (s:=.tmp 62) (N:=N+1) (L:=X ++ [UInt8.ofNat op.toNat]) rfl (hown.below (b:=wr.heap.size) bc aW) rfl (k:=[UInt8.ofNat op.toNat]) (Rd.of_block (l:=[UInt8.ofNat op.toNat]) (dP _ _ aZ) hbv.out) rfl rfl bQ aS br ?_;intro A7 c7 w7 own7 hg7 hat7 hb7;have hk7:Blk w7 wr.heap.size 144 [I op,I xa,I xb,I xc,I xk]:=Blk.grown bI hg7 (fun e=>by have:=(hown.lt _ e).2;omega);have hp7:Blk w7 w.heap.size 26 [.slice A1 n1 c1,.slice A2 n2 c2,I regs,.slice A3 k c3,.slice (some ⟨b,o,none⟩) n4 c4]:=Blk.grown bI hg7 (hown.ne_ hblk aU);obtain⟨y70,y71,y72,y73,y74⟩:=blk5 hk7;replace hb7:=bO (a:=w) (B:=w.heap.size) bc hb7 br;have hb7s:=hb7.size) | (refine eF rfl rfl cH dg (s:=.tmp 67) (N:=N+1+DA.length) (L:=X ++ [UInt8.ofNat op.toNat] ++ DA) rfl (own8.below (b:=w8.heap.size) bc aW) rfl (k:=DA) (row8.rd.rb.below (B:=w8.heap.size) bc aW).rd rfl rfl bQ aS br ?_;intro A9 c9 w9 own9 hg9 hat9 hb9;have hk9:Blk w9 wr.heap.size 144 [I op,I xa,I xb,I xc,I xk]:=Blk.grown bI hg9 (own8.ne_ hk8 aU);have hp9:Blk w9 w.heap.size 26 [.slice A1 n1 c1,.slice A2 n2 c2,I regs,.slice A3 k c3,.slice (some ⟨b,o,none⟩) n4 c4]:=Blk.grown bI hg9 (own8.ne_ hp8 aU);obtain⟨y90,y91,y92,y93,y94⟩:=blk5 hk9;replace hb9:=bO (a:=w) (B:=w.heap.size) bc hb9 br;have hb9s:=hb9.size))
         all_goals
          go_wp2_with (first | ((go_at_call 229;go_call (hK _) as e w10 ⟨D10,e10,rfl,row10,hb10⟩);have own10:=own9.below hb10 aW;have hk10:=hk9.below (w':=w10) hb10 hk9.lt;have hp10:=hp9.below (w':=w10) hb10 hp9.lt;obtain⟨y100,y101,y102,y103,y104⟩:=blk5 hk10;replace hb10:=bO (a:=w) (B:=w.heap.size) bc hb10 br;have hb10s:=hb10.size) | (at_builtin;refine dR rfl rfl cH dg (s:=.tmp 91) (N:=N+1+DA.length+DK.length) (L:=X ++ [UInt8.ofNat op.toNat] ++ DA ++ DK) rfl own10 rfl (k:=DK) row10.rd rfl rfl bQ aS br ?_;intro A11 c11 w11 own11 hg11 hat11 hb11;have hk11:=Blk.grown hk10 hg11 (own10.ne_ hk10 aU);have hp11:=Blk.grown hp10 hg11 (own10.ne_ hp10 aU);obtain⟨y110,y111,y112,y113,y114⟩:=blk5 hk11;replace hb11:=bO (a:=w) (B:=w.heap.size) bc hb11 br;have hb11s:=hb11.size));go_roundw
          case rel=>exact⟨j+1,N+1+DA.length+DK.length,A11,c11,aS,by go_num,rfl,aS,by rw[<- hcat.out];exact own11,hb11,hp11.lt,hp11⟩
          case measure=>simp[intOf];omega
       · have hf':∀ w,Ca 230 #[I op] w fun e w'=>e=.returned (I 3)/\w=w':=hf
         have hcat:Hid (X ++ [UInt8.ofNat op.toNat] ++ DA ++ DB=HB ++ (code.take (j+1)).flatMap fT):=by
          show _=_
          rw[<- hcx.out];unfold fT hasK;rw[hq.out,HDA.out,HDB.out,HDC.out,HDK.out];simp
         clear hf hcx hq;go_wp2_with (go_at_call 230;go_call (hf' _) as e w2 ⟨rfl,rfl⟩);go_region_held3 (fun w'=>w'.cell? ⟨wr.heap.size,0,none⟩=some (I op)/\w'.cell? ⟨wr.heap.size,1,none⟩=some (I xa)) (first | go_keep | (refine⟨?_,?_⟩ <;> assumption)) (first | ((go_at_call 228;go_call (hA _) as e w8 ⟨A8,c8,rfl,row8,hb8⟩);have own8:=own7.below hb8 aW;have hk8:=hk7.below (w':=w8) hb8 hk7.lt;have hp8:=hp7.below (w':=w8) hb8 hp7.lt;obtain⟨y80,y81,y82,y83,y84⟩:=blk5 hk8;replace hb8:=bO (a:=w) (B:=w.heap.size) bc hb8 br;have hb8s:=hb8.size) | (refine eF rfl rfl cH dg (s:=.tmp 62) (N:=N+1) (L:=X ++ [UInt8.ofNat op.toNat]) rfl (hown.below (b:=wr.heap.size) bc aW) rfl (k:=[UInt8.ofNat op.toNat]) (Rd.of_block (l:=[UInt8.ofNat op.toNat]) (dP _ _ aZ) hbv.out) rfl rfl bQ aS br ?_;intro A7 c7 w7 own7 hg7 hat7 hb7;have hk7:Blk w7 wr.heap.size 144 [I op,I xa,I xb,I xc,I xk]:=Blk.grown bI hg7 (fun e=>by have:=(hown.lt _ e).2;omega);have hp7:Blk w7 w.heap.size 26 [.slice A1 n1 c1,.slice A2 n2 c2,I regs,.slice A3 k c3,.slice (some ⟨b,o,none⟩) n4 c4]:=Blk.grown bI hg7 (hown.ne_ hblk aU);obtain⟨y70,y71,y72,y73,y74⟩:=blk5 hk7;replace hb7:=bO (a:=w) (B:=w.heap.size) bc hb7 br;have hb7s:=hb7.size) | (refine eF rfl rfl cH dg (s:=.tmp 67) (N:=N+1+DA.length) (L:=X ++ [UInt8.ofNat op.toNat] ++ DA) rfl (own8.below (b:=w8.heap.size) bc aW) rfl (k:=DA) (row8.rd.rb.below (B:=w8.heap.size) bc aW).rd rfl rfl bQ aS br ?_;intro A9 c9 w9 own9 hg9 hat9 hb9;have hk9:Blk w9 wr.heap.size 144 [I op,I xa,I xb,I xc,I xk]:=Blk.grown bI hg9 (own8.ne_ hk8 aU);have hp9:Blk w9 w.heap.size 26 [.slice A1 n1 c1,.slice A2 n2 c2,I regs,.slice A3 k c3,.slice (some ⟨b,o,none⟩) n4 c4]:=Blk.grown bI hg9 (own8.ne_ hp8 aU);obtain⟨y90,y91,y92,y93,y94⟩:=blk5 hk9;replace hb9:=bO (a:=w) (B:=w.heap.size) bc hb9 br;have hb9s:=hb9.size))
         all_goals
          go_wp2_with (first | ((go_at_call 228;go_call (hB _) as e w10 ⟨D10,e10,rfl,row10,hb10⟩);have own10:=own9.below hb10 aW;have hk10:=hk9.below (w':=w10) hb10 hk9.lt;have hp10:=hp9.below (w':=w10) hb10 hp9.lt;obtain⟨y100,y101,y102,y103,y104⟩:=blk5 hk10;replace hb10:=bO (a:=w) (B:=w.heap.size) bc hb10 br;have hb10s:=hb10.size) | (at_builtin;refine dR rfl rfl cH dg (s:=.tmp 75) (N:=N+1+DA.length+DB.length) (L:=X ++ [UInt8.ofNat op.toNat] ++ DA ++ DB) rfl own10 rfl (k:=DB) row10.rd rfl rfl bQ aS br ?_;intro A11 c11 w11 own11 hg11 hat11 hb11;have hk11:=Blk.grown hk10 hg11 (own10.ne_ hk10 aU);have hp11:=Blk.grown hp10 hg11 (own10.ne_ hp10 aU);obtain⟨y110,y111,y112,y113,y114⟩:=blk5 hk11;replace hb11:=bO (a:=w) (B:=w.heap.size) bc hb11 br;have hb11s:=hb11.size));go_roundw
          case rel=>exact⟨j+1,N+1+DA.length+DB.length,A11,c11,aS,by go_num,rfl,aS,by rw[<- hcat.out];exact own11,hb11,hp11.lt,hp11⟩
          case measure=>simp[intOf];omega
       · have hf':∀ w,Ca 230 #[I op] w fun e w'=>e=.returned (I 7)/\w=w':=hf
         have hcat:Hid (X ++ [UInt8.ofNat op.toNat] ++ DA ++ DB ++ DC=HB ++ (code.take (j+1)).flatMap fT):=by
          show _=_
          rw[<- hcx.out];unfold fT hasK;rw[hq.out,HDA.out,HDB.out,HDC.out,HDK.out];simp
         clear hf hcx hq;go_wp2_with (go_at_call 230;go_call (hf' _) as e w2 ⟨rfl,rfl⟩);go_region_held3 (fun w'=>w'.cell? ⟨wr.heap.size,0,none⟩=some (I op)/\w'.cell? ⟨wr.heap.size,1,none⟩=some (I xa)) (first | go_keep | (refine⟨?_,?_⟩ <;> assumption)) (first | ((go_at_call 228;go_call (hA _) as e w8 ⟨A8,c8,rfl,row8,hb8⟩);have own8:=own7.below hb8 aW;have hk8:=hk7.below (w':=w8) hb8 hk7.lt;have hp8:=hp7.below (w':=w8) hb8 hp7.lt;obtain⟨y80,y81,y82,y83,y84⟩:=blk5 hk8;replace hb8:=bO (a:=w) (B:=w.heap.size) bc hb8 br;have hb8s:=hb8.size) | (refine eF rfl rfl cH dg (s:=.tmp 62) (N:=N+1) (L:=X ++ [UInt8.ofNat op.toNat]) rfl (hown.below (b:=wr.heap.size) bc aW) rfl (k:=[UInt8.ofNat op.toNat]) (Rd.of_block (l:=[UInt8.ofNat op.toNat]) (dP _ _ aZ) hbv.out) rfl rfl bQ aS br ?_;intro A7 c7 w7 own7 hg7 hat7 hb7;have hk7:Blk w7 wr.heap.size 144 [I op,I xa,I xb,I xc,I xk]:=Blk.grown bI hg7 (fun e=>by have:=(hown.lt _ e).2;omega);have hp7:Blk w7 w.heap.size 26 [.slice A1 n1 c1,.slice A2 n2 c2,I regs,.slice A3 k c3,.slice (some ⟨b,o,none⟩) n4 c4]:=Blk.grown bI hg7 (hown.ne_ hblk aU);obtain⟨y70,y71,y72,y73,y74⟩:=blk5 hk7;replace hb7:=bO (a:=w) (B:=w.heap.size) bc hb7 br;have hb7s:=hb7.size) | (refine eF rfl rfl cH dg (s:=.tmp 67) (N:=N+1+DA.length) (L:=X ++ [UInt8.ofNat op.toNat] ++ DA) rfl (own8.below (b:=w8.heap.size) bc aW) rfl (k:=DA) (row8.rd.rb.below (B:=w8.heap.size) bc aW).rd rfl rfl bQ aS br ?_;intro A9 c9 w9 own9 hg9 hat9 hb9;have hk9:Blk w9 wr.heap.size 144 [I op,I xa,I xb,I xc,I xk]:=Blk.grown bI hg9 (own8.ne_ hk8 aU);have hp9:Blk w9 w.heap.size 26 [.slice A1 n1 c1,.slice A2 n2 c2,I regs,.slice A3 k c3,.slice (some ⟨b,o,none⟩) n4 c4]:=Blk.grown bI hg9 (own8.ne_ hp8 aU);obtain⟨y90,y91,y92,y93,y94⟩:=blk5 hk9;replace hb9:=bO (a:=w) (B:=w.heap.size) bc hb9 br;have hb9s:=hb9.size))
         all_goals
          go_wp2_with (first | ((go_at_call 228;(with_reducible refine (hB _).mono ?_);rintro e w10 ⟨D10,e10,rfl,row10,hb10⟩);have own10:=own9.below hb10 aW;have hk10:=hk9.below (w':=w10) hb10 hk9.lt;have hp10:=hp9.below (w':=w10) hb10 hp9.lt;obtain⟨y100,y101,y102,y103,y104⟩:=blk5 hk10;replace hb10:=bO (a:=w) (B:=w.heap.size) bc hb10 br;have hb10s:=hb10.size) | (at_builtin;refine dR rfl rfl cH dg (s:=.tmp 75) (N:=N+1+DA.length+DB.length) (L:=X ++ [UInt8.ofNat op.toNat] ++ DA ++ DB) rfl own10 rfl (k:=DB) row10.rd rfl rfl bQ aS br ?_;intro A11 c11 w11 own11 hg11 hat11 hb11;have hk11:=Blk.grown hk10 hg11 (own10.ne_ hk10 aU);have hp11:=Blk.grown hp10 hg11 (own10.ne_ hp10 aU);obtain⟨y110,y111,y112,y113,y114⟩:=blk5 hk11;replace hb11:=bO (a:=w) (B:=w.heap.size) bc hb11 br;have hb11s:=hb11.size) | ((go_at_call 228;(with_reducible refine (hC _).mono ?_);rintro e w12 ⟨D12,e12,rfl,row12,hb12⟩);have own12:=own11.below hb12 aW;have hk12:=hk11.below (w':=w12) hb12 hk11.lt;have hp12:=hp11.below (w':=w12) hb12 hp11.lt;obtain⟨y120,y121,y122,y123,y124⟩:=blk5 hk12;replace hb12:=bO (a:=w) (B:=w.heap.size) bc hb12 br;have hb12s:=hb12.size) | (at_builtin;refine dR rfl rfl cH dg (s:=.tmp 83) (N:=N+1+DA.length+DB.length+DC.length) (L:=X ++ [UInt8.ofNat op.toNat] ++ DA ++ DB ++ DC) rfl own12 rfl (k:=DC) row12.rd rfl rfl bQ aS br ?_;intro A13 c13 w13 own13 hg13 hat13 hb13;have hk13:=Blk.grown hk12 hg13 (own12.ne_ hk12 aU);have hp13:=Blk.grown hp12 hg13 (own12.ne_ hp12 aU);obtain⟨y130,y131,y132,y133,y134⟩:=blk5 hk13;replace hb13:=bO (a:=w) (B:=w.heap.size) bc hb13 br;have hb13s:=hb13.size));go_roundw
          case rel=>exact⟨j+1,N+1+DA.length+DB.length+DC.length,A13,c13,aS,by go_num,rfl,aS,by rw[<- hcat.out];exact own13,hb13,hp13.lt,hp13⟩
          case measure=>simp[intOf];omega
       · have hf':∀ w,Ca 230 #[I op] w fun e w'=>e=.returned (I 15)/\w=w':=hf
         have hcat:Hid (X ++ [UInt8.ofNat op.toNat] ++ DA ++ DB ++ DC ++ DK=HB ++ (code.take (j+1)).flatMap fT):=by
          show _=_
          rw[<- hcx.out];unfold fT hasK;rw[hq.out,HDA.out,HDB.out,HDC.out,HDK.out];simp
         clear hf hcx hq;go_wp2_with (go_at_call 230;go_call (hf' _) as e w2 ⟨rfl,rfl⟩);go_region_held3 (fun w'=>w'.cell? ⟨wr.heap.size,0,none⟩=some (I op)/\w'.cell? ⟨wr.heap.size,1,none⟩=some (I xa)) (first | go_keep | (refine⟨?_,?_⟩ <;> assumption)) (first | ((go_at_call 228;go_call (hA _) as e w8 ⟨A8,c8,rfl,row8,hb8⟩);have own8:=own7.below hb8 aW;have hk8:=hk7.below (w':=w8) hb8 hk7.lt;have hp8:=hp7.below (w':=w8) hb8 hp7.lt;obtain⟨y80,y81,y82,y83,y84⟩:=blk5 hk8;replace hb8:=bO (a:=w) (B:=w.heap.size) bc hb8 br;have hb8s:=hb8.size) | (refine eF rfl rfl cH dg (s:=.tmp 62) (N:=N+1) (L:=X ++ [UInt8.ofNat op.toNat]) rfl (hown.below (b:=wr.heap.size) bc aW) rfl (k:=[UInt8.ofNat op.toNat]) (Rd.of_block (l:=[UInt8.ofNat op.toNat]) (dP _ _ aZ) hbv.out) rfl rfl bQ aS br ?_;intro A7 c7 w7 own7 hg7 hat7 hb7;have hk7:Blk w7 wr.heap.size 144 [I op,I xa,I xb,I xc,I xk]:=Blk.grown bI hg7 (fun e=>by have:=(hown.lt _ e).2;omega);have hp7:Blk w7 w.heap.size 26 [.slice A1 n1 c1,.slice A2 n2 c2,I regs,.slice A3 k c3,.slice (some ⟨b,o,none⟩) n4 c4]:=Blk.grown bI hg7 (hown.ne_ hblk aU);obtain⟨y70,y71,y72,y73,y74⟩:=blk5 hk7;replace hb7:=bO (a:=w) (B:=w.heap.size) bc hb7 br;have hb7s:=hb7.size) | (refine eF rfl rfl cH dg (s:=.tmp 67) (N:=N+1+DA.length) (L:=X ++ [UInt8.ofNat op.toNat] ++ DA) rfl (own8.below (b:=w8.heap.size) bc aW) rfl (k:=DA) (row8.rd.rb.below (B:=w8.heap.size) bc aW).rd rfl rfl bQ aS br ?_;intro A9 c9 w9 own9 hg9 hat9 hb9;have hk9:Blk w9 wr.heap.size 144 [I op,I xa,I xb,I xc,I xk]:=Blk.grown bI hg9 (own8.ne_ hk8 aU);have hp9:Blk w9 w.heap.size 26 [.slice A1 n1 c1,.slice A2 n2 c2,I regs,.slice A3 k c3,.slice (some ⟨b,o,none⟩) n4 c4]:=Blk.grown bI hg9 (own8.ne_ hp8 aU);obtain⟨y90,y91,y92,y93,y94⟩:=blk5 hk9;replace hb9:=bO (a:=w) (B:=w.heap.size) bc hb9 br;have hb9s:=hb9.size))
         all_goals
          go_wp2_with (first | ((go_at_call 228;(with_reducible refine (hB _).mono ?_);rintro e w10 ⟨D10,e10,rfl,row10,hb10⟩);have own10:=own9.below hb10 aW;have hk10:=hk9.below (w':=w10) hb10 hk9.lt;have hp10:=hp9.below (w':=w10) hb10 hp9.lt;obtain⟨y100,y101,y102,y103,y104⟩:=blk5 hk10;replace hb10:=bO (a:=w) (B:=w.heap.size) bc hb10 br;have hb10s:=hb10.size) | (at_builtin;refine dR rfl rfl cH dg (s:=.tmp 75) (N:=N+1+DA.length+DB.length) (L:=X ++ [UInt8.ofNat op.toNat] ++ DA ++ DB) rfl own10 rfl (k:=DB) row10.rd rfl rfl bQ aS br ?_;intro A11 c11 w11 own11 hg11 hat11 hb11;have hk11:=Blk.grown hk10 hg11 (own10.ne_ hk10 aU);have hp11:=Blk.grown hp10 hg11 (own10.ne_ hp10 aU);obtain⟨y110,y111,y112,y113,y114⟩:=blk5 hk11;replace hb11:=bO (a:=w) (B:=w.heap.size) bc hb11 br;have hb11s:=hb11.size) | ((go_at_call 228;(with_reducible refine (hC _).mono ?_);rintro e w12 ⟨D12,e12,rfl,row12,hb12⟩);have own12:=own11.below hb12 aW;have hk12:=hk11.below (w':=w12) hb12 hk11.lt;have hp12:=hp11.below (w':=w12) hb12 hp11.lt;obtain⟨y120,y121,y122,y123,y124⟩:=blk5 hk12;replace hb12:=bO (a:=w) (B:=w.heap.size) bc hb12 br;have hb12s:=hb12.size) | (at_builtin;refine dR rfl rfl cH dg (s:=.tmp 83) (N:=N+1+DA.length+DB.length+DC.length) (L:=X ++ [UInt8.ofNat op.toNat] ++ DA ++ DB ++ DC) rfl own12 rfl (k:=DC) row12.rd rfl rfl bQ aS br ?_;intro A13 c13 w13 own13 hg13 hat13 hb13;have hk13:=Blk.grown hk12 hg13 (own12.ne_ hk12 aU);have hp13:=Blk.grown hp12 hg13 (own12.ne_ hp12 aU);obtain⟨y130,y131,y132,y133,y134⟩:=blk5 hk13;replace hb13:=bO (a:=w) (B:=w.heap.size) bc hb13 br;have hb13s:=hb13.size) | ((go_at_call 229;go_call (hK _) as e w14 ⟨D14,e14,rfl,row14,hb14⟩);have own14:=own13.below hb14 aW;have hk14:=hk13.below (w':=w14) hb14 hk13.lt;have hp14:=hp13.below (w':=w14) hb14 hp13.lt;obtain⟨y140,y141,y142,y143,y144⟩:=blk5 hk14;replace hb14:=bO (a:=w) (B:=w.heap.size) bc hb14 br;have hb14s:=hb14.size) | (at_builtin;refine dR rfl rfl cH dg (s:=.tmp 91) (N:=N+1+DA.length+DB.length+DC.length+DK.length) (L:=X ++ [UInt8.ofNat op.toNat] ++ DA ++ DB ++ DC ++ DK) rfl own14 rfl (k:=DK) row14.rd rfl rfl bQ aS br ?_;intro A15 c15 w15 own15 hg15 hat15 hb15;have hk15:=Blk.grown hk14 hg15 (own14.ne_ hk14 aU);have hp15:=Blk.grown hp14 hg15 (own14.ne_ hp14 aU);obtain⟨y150,y151,y152,y153,y154⟩:=blk5 hk15;replace hb15:=bO (a:=w) (B:=w.heap.size) bc hb15 br;have hb15s:=hb15.size));go_roundw
          case rel=>exact⟨j+1,N+1+DA.length+DB.length+DC.length+DK.length,A15,c15,aS,by go_num,rfl,aS,by rw[<- hcat.out];exact own15,hb15,hp15.lt,hp15⟩
          case measure=>simp[intOf];omega
     · have hjn:j=n4:=aS;subst hjn;have hF:=hfin;clear hfin;go_wp2;go_ret2;exact⟨B,N,d,rfl,by rw[<- hF.out];exact hown,hbel⟩
