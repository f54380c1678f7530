/- Parts. -/
import Derived.Test.YtmeebofhlilcmaaGreatPr02
set_option linter.unusedVariables false
set_option linter.unusedSimpArgs false
set_option maxRecDepth 100000
set_option maxHeartbeats 0
namespace Go.Proofs.YtmeebofhlilcmaaGreat
open Go.RowKit
def fA (op:Int):Int:=if op=12\/op=13 then 0 else if op=6\/18<=op then 2 else 1
def fB (op:Int):Int:=if op=6\/12<=op then 2 else 1
def fC (op:Int):Bool:=decide (5<=op/\op<=20)
structure LkV where
 kinds:List Int
 outs:List Bool
 past:Int
 bad:Bool
def kAt (l:List Int)(n:Int):Int:=if n<0 then 0 else l.getD n.toNat 0
def cJ (s:LkV)(b:Bool):LkV:={ s with bad:=s.bad || !b }
def cW (s:LkV)(n:Int):LkV × Int:=if n<0\/(s.kinds.length:Int)<=n\/kAt s.kinds n=0 then ({ s with bad:=true },0) else (s,kAt s.kinds n)
def fp (s:LkV)(n kind:Int):LkV:=if n<0\/(s.kinds.length:Int)<=n\/kAt s.kinds n≠0 then { s with bad:=true } else { s with kinds:=s.kinds.set n.toNat kind }
def oneV (s:LkV)(l:List Int)(n:Int):LkV × Int:=if n<0\/(l.length:Int)<=n then ({ s with bad:=true },0) else (s,kAt l n)
def cellV (p:PV)(s:LkV)(n:Int):LkV × Int:=if n<0\/(p.cells.length:Int)<=n then ({ s with bad:=true },0) else (s,(db p.cells n.toNat).1)
def reckV (s:LkV)(x:Ins):LkV :=
 let t:=cW s x.b
 let s1:=cJ t.1 (decide (fA x.op=0) || decide (t.2=fA x.op))
 let s2:=if x.op≠5/\x.op≠6 then (let u:=cW s1 x.c;cJ u.1 (decide (u.2=t.2))) else s1
 fp s2 x.a (fB x.op)
def bV (p:PV)(s:LkV)(i:Nat)(x:Ins):LkV :=
 if fC x.op then reckV s x
 else if x.op=1 then fp s x.a 1
 else if x.op=2 then fp (cJ s (decide (x.k=0) || decide (x.k=1))) x.a 2
 else if x.op=3 then (let t:=cW s x.b;fp t.1 x.a t.2)
 else if x.op=27 then (let t:=cW s x.b;let s1:=cJ t.1 (decide (t.2=2));let u:=cW s1 x.c;let v:=cW u.1 x.k;fp (cJ v.1 (decide (v.2=u.2))) x.a u.2)
 else if x.op=21 then (let t:=cellV p s x.k;fp t.1 x.a t.2)
 else if x.op=28 then (let t:=oneV s p.ins x.k;fp t.1 x.a t.2)
 else if x.op=29 then
  (let t:=cW s x.a;let u:=oneV t.1 p.outs x.k;let s1:=cJ (cJ u.1 (decide (t.2=u.2))) (decide (s.past<=(i:Int)))
   if s1.bad then s1 else { cJ s1 (!(s1.outs.getD x.k.toNat false)) with outs:=s1.outs.set x.k.toNat true })
 else if x.op=32 then (let t:=cW s x.a;let u:=cellV p t.1 x.k;cJ u.1 (decide (t.2=u.2)))
 else
  (let t:=cW s x.a;let s1:=cJ t.1 (decide (t.2=2) && (decide (0<=x.k) && decide (x.k<=(p.code.length:Int) - 1 - (i:Int))))
   { s1 with past:=max s1.past ((i:Int)+1+min x.k (p.code.length:Int)) })
def cj (p:PV):Nat->LkV
 | 0=>⟨List.replicate p.regs.toNat 0,List.replicate p.outs.length false,0,false⟩
 | n+1=>if (cj p n).bad then cj p n else bV p (cj p n) n (aY p.code n)
def dF (p:PV):Bool:=mayB p && (!(cj p p.code.length).bad && (cj p p.code.length).outs.all id)
def cZ (p:PV)(t:Int->Int)(x:Ins):Int :=
 if fC x.op then fB x.op
 else if x.op<=2 then x.op
 else if x.op=3 then t x.b
 else if x.op=27 then t x.c
 else if x.op=21/\0<=x.k/\x.k<(p.cells.length:Int) then (db p.cells x.k.toNat).1
 else if x.op=28/\0<=x.k/\x.k<(p.ins.length:Int) then kAt p.ins x.k
 else 0
def dd (p:PV):Nat->Int->Int
 | 0,_=>0
 | n+1,r=>if 29<=(aY p.code n).op\/(aY p.code n).a≠r then dd p n r else if dd p n r≠0 then 9 else cZ p (fun r=>if r<0\/p.regs<=r then 0 else dd p n r) (aY p.code n)
def bG (p:PV)(i:Nat)(r:Int):Int:=if r<0\/p.regs<=r then 0 else dd p i r
def du (p:PV)(i:Nat)(x:Ins):Bool :=
 if fC x.op then (decide (bG p i x.b≠0) && ((decide (fA x.op=0) || decide (bG p i x.b=fA x.op)) && (decide (x.op<=6) || decide (bG p i x.c=bG p i x.b))))
 else if x.op=2 then decide (x.k=0) || decide (x.k=1)
 else if x.op=3 then decide (bG p i x.b≠0)
 else if x.op=27 then decide (bG p i x.b=2) && (decide (bG p i x.c≠0) && decide (bG p i x.k=bG p i x.c))
 else if x.op=29 then decide (0<=x.k) && (decide (x.k<(p.outs.length:Int)) && decide (bG p i x.a=kAt p.outs x.k))
 else if x.op=32 then decide (0<=x.k) && (decide (x.k<(p.cells.length:Int)) && decide (bG p i x.a=(db p.cells x.k.toNat).1))
 else if x.op=30\/x.op=31 then decide (0<=x.k) && (decide (x.k<=(p.code.length:Int) - 1 - (i:Int)) && decide (bG p i x.a=2))
 else true
def skipR (p:PV)(i:Nat):Bool:=(List.range i).any (fun k=>(decide ((aY p.code k).op=30) || decide ((aY p.code k).op=31)) && decide ((i:Int) - (k:Int)<=(aY p.code k).k))
def okR (p:PV)(i:Nat):Bool :=
 du p i (aY p.code i) && ((decide (29<=(aY p.code i).op) || (decide ((aY p.code i).a<p.regs) && (decide (dd p i (aY p.code i).a=0) && (decide (cZ p (bG p i) (aY p.code i)=1) || decide (cZ p (bG p i) (aY p.code i)=2))))) &&
  (decide ((aY p.code i).op≠29) || !skipR p i))
def dM (p:PV)(n:Nat)(o:Nat):Nat:=((List.range n).filter (fun i=>decide ((aY p.code i).op=29) && decide ((aY p.code i).k=(o:Int)))).length
def j9 (p:PV):Bool:=mayB p && ((List.range p.code.length).all (okR p) && (List.range p.outs.length).all (fun o=>decide (dM p p.code.length o=1)))
def tk (l:List Int)(n:Int):Int:=if n<0\/(l.length:Int)<=n then 0 else kAt l n
theorem iG (s:LkV)(n:Int):cW s n=({ s with bad:=s.bad || decide (tk s.kinds n=0) },tk s.kinds n):=by
 unfold cW tk
 by_cases h1:n<0\/(s.kinds.length:Int)<=n
 · rw[if_pos aS,if_pos h1];simp
 · rw[if_neg h1]
   by_cases h2:kAt s.kinds n=0
   · rw[if_pos aS,h2];simp
   · rw[if_neg aS];simp[h2]
def gb (l:List Int)(n:Int):Bool:=decide (n<0\/(l.length:Int)<=n\/kAt l n≠0)
theorem givesV_eq (s:LkV)(n kind:Int):fp s n kind={ s with bad:=s.bad || gb s.kinds n,kinds:=if gb s.kinds n then s.kinds else s.kinds.set n.toNat kind }:=by
 unfold fp gb
 by_cases h:n<0\/(s.kinds.length:Int)<=n\/kAt s.kinds n≠0
 · rw[if_pos h];simp[h]
 · rw[if_neg h];simp only[h];simp
theorem ke (s:LkV)(l:List Int)(n:Int):oneV s l n=({ s with bad:=s.bad || decide (n<0\/(l.length:Int)<=n) },if n<0\/(l.length:Int)<=n then 0 else kAt l n):=by
 unfold oneV
 by_cases h:n<0\/(l.length:Int)<=n
 · rw[if_pos h,if_pos h];simp[h]
 · rw[if_neg h,if_neg h];simp[h]
theorem mo (p:PV)(s:LkV)(n:Int):cellV p s n=({ s with bad:=s.bad || decide (n<0\/(p.cells.length:Int)<=n) },if n<0\/(p.cells.length:Int)<=n then 0 else (db p.cells n.toNat).1):=by
 unfold cellV
 by_cases h:n<0\/(p.cells.length:Int)<=n
 · rw[if_pos h,if_pos h];simp[h]
 · rw[if_neg h,if_neg h];simp[h]
theorem kAt_set {l:List Int}{n:Int}(h0:0<=n)(h1:n<(l.length:Int))(v:Int){r:Int}(hr:0<=r):kAt (l.set n.toNat v) r=if r=n then v else kAt l r:=by
 unfold kAt;simp only[if_neg (show ¬ r<0 by omega),ah,List.getElem?_set]
 by_cases h:r=n
 · subst h;simp only[if_true,if_pos (show r.toNat<l.length by omega)];rfl
 · simp only[if_neg (show ¬ n.toNat=r.toNat by omega),if_neg h]
def fZ (p:PV)(n i:Nat):Bool:=(List.range n).any (fun k=>(decide ((aY p.code k).op=30) || decide ((aY p.code k).op=31)) && decide ((i:Int) - (k:Int)<=(aY p.code k).k))
structure LkI (p:PV)(n:Nat)(s:LkV):Prop where
 good:s.bad=false
 klen:s.kinds.length=p.regs.toNat
 kinds:∀ r,0<=r->r<p.regs->kAt s.kinds r=dd p n r
 kin:∀ r,dd p n r=0\/dd p n r=1\/dd p n r=2
 olen:s.outs.length=p.outs.length
 outs:∀ o,o<p.outs.length->(s.outs.getD o false=true ↔ dM p n o≠0)
 past:∀ i:Nat,(fZ p n i=true ↔ (i:Int)<s.past)
section
variable {p:PV} {n:Nat} {s:LkV}
theorem LkI.tk (h:LkI p n s)(hr:0<=p.regs)(r:Int):tk s.kinds r=bG p n r:=by
 unfold Go.Proofs.YtmeebofhlilcmaaGreat.tk bG;have hk:(s.kinds.length:Int)=p.regs:=by rw[h.klen];omega
 rw[hk]
 by_cases q:r<0\/p.regs<=r
 · rw[if_pos q,if_pos q]
 · rw[if_neg q,if_neg q];exact h.kinds r aS aS
theorem LkI.gb (h:LkI p n s)(hr:0<=p.regs)(r:Int)(h0:0<=r):gb s.kinds r=!(decide (r<p.regs) && decide (dd p n r=0)):=by
 unfold Go.Proofs.YtmeebofhlilcmaaGreat.gb;have hk:(s.kinds.length:Int)=p.regs:=by rw[h.klen];omega
 rw[hk]
 by_cases q:p.regs<=r
 · rw[am aS,aj (show ¬ r<p.regs by omega)];rfl
 · have e:=h.kinds r h0 aS;rw[am (show r<p.regs by omega),e]
   by_cases q2:dd p n r=0
   · rw[am q2,aj aS];rfl
   · rw[aj q2,am aS];rfl
theorem lk_start (p:PV)(hr:0<=p.regs):LkI p 0 (cj p 0) :=
 ⟨rfl,by simp[cj],fun r h0 h1=>by
  show kAt (List.replicate p.regs.toNat 0) r=0
  unfold kAt;rw[if_neg aS,ah,List.getElem?_replicate]
  split <;> rfl,fun r=>.inl rfl,by simp[cj],fun o ho=>by
  show (List.replicate p.outs.length false).getD o false=true ↔ (dM p 0 o≠0)
  rw[ah,List.getElem?_replicate,if_pos ho];simp[dM],fun i=>by
  show (fZ p 0 i=true ↔ (i:Int)<0)
  simp[fZ]⟩
end
theorem ip (p:PV)(n:Nat)(r:Int):dd p (n+1) r=if 29<=(aY p.code n).op\/(aY p.code n).a≠r then dd p n r else if dd p n r≠0 then 9 else cZ p (bG p n) (aY p.code n):=rfl
theorem jn (p:PV)(n o:Nat):dM p (n+1) o=dM p n o+if (aY p.code n).op=29/\(aY p.code n).k=(o:Int) then 1 else 0:=by
 unfold dM;rw[List.range_succ,List.filter_append,aw]
 congr 1
 by_cases h:(aY p.code n).op=29/\(aY p.code n).k=(o:Int)
 · rw[if_pos h];simp[h.1,h.2]
 · rw[if_neg h];have:(decide ((aY p.code n).op=29) && decide ((aY p.code n).k=(o:Int)))=false:=by
    rw[Bool.and_eq_false_iff,aE,aE]
    by_cases h1:(aY p.code n).op=29
    · exact .inr (fun e=>h ⟨h1,e⟩)
    · exact .inl h1
   simp[this]
theorem kf (p:PV)(n i:Nat):fZ p (n+1) i=(fZ p n i || ((decide ((aY p.code n).op=30) || decide ((aY p.code n).op=31)) && decide ((i:Int) - (n:Int)<=(aY p.code n).k))):=by
 unfold fZ;rw[List.range_succ,List.any_append];simp
section
variable {p:PV} {n:Nat} {s:LkV}
theorem LkI.give (h:LkI p n s)(hr:0<=p.regs)(hop:(aY p.code n).op<29)(ha0:0<=(aY p.code n).a)(ha:(aY p.code n).a<p.regs)(hk0:dd p n (aY p.code n).a=0){k:Int}(hg:cZ p (bG p n) (aY p.code n)=k)(hk:k=1\/k=2) :
 LkI p (n+1) { s with kinds:=s.kinds.set (aY p.code n).a.toNat k }:=by
 have hkl:(s.kinds.length:Int)=p.regs:=by rw[h.klen];omega
 refine⟨h.good,by simp[h.klen],fun r h0 h1=>?_,fun r=>?_,h.olen,fun o ho=>?_,fun i=>?_⟩
 · show kAt (s.kinds.set (aY p.code n).a.toNat k) r=_
   rw[kAt_set ha0 aS k h0,ip]
   by_cases e:r=(aY p.code n).a
   · subst e;rw[if_pos rfl,if_neg aS,if_neg aS,hg]
   · rw[if_neg e,if_pos (.inr (fun q=>e q.symm))];exact h.kinds r h0 h1
 · rw[ip]
   by_cases e:r=(aY p.code n).a
   · subst e;rw[if_neg aS,if_neg aS,hg];omega
   · rw[if_pos (.inr (fun q=>e q.symm))];exact h.kin r
 · rw[jn,if_neg aS];exact h.outs o ho
 · rw[kf];have:(decide ((aY p.code n).op=30) || decide ((aY p.code n).op=31))=false:=by
    rw[aj aS,aj aS];rfl
   rw[this,Bool.false_and,Bool.or_false];exact h.past i
theorem LkI.none_ (h:LkI p n s)(hop:(aY p.code n).op=32):LkI p (n+1) s:=by
 refine⟨h.good,h.klen,fun r h0 h1=>?_,fun r=>?_,h.olen,fun o ho=>?_,fun i=>?_⟩
 · rw[ip,if_pos (.inl aS)];exact h.kinds r h0 h1
 · rw[ip,if_pos (.inl aS)];exact h.kin r
 · rw[jn,if_neg aS];exact h.outs o ho
 · rw[kf];have:(decide ((aY p.code n).op=30) || decide ((aY p.code n).op=31))=false:=by
    rw[aj aS,aj aS];rfl
   rw[this,Bool.false_and,Bool.or_false];exact h.past i
theorem LkI.skip_ (h:LkI p n s)(hop:(aY p.code n).op=30\/(aY p.code n).op=31)(h0:0<=(aY p.code n).k)(h1:(aY p.code n).k<=(p.code.length:Int) - 1 - (n:Int)) :
 LkI p (n+1) { s with past:=max s.past ((n:Int)+1+min (aY p.code n).k (p.code.length:Int)) }:=by
 refine⟨h.good,h.klen,fun r h0 h1=>?_,fun r=>?_,h.olen,fun o ho=>?_,fun i=>?_⟩
 · rw[ip,if_pos (.inl aS)];exact h.kinds r h0 h1
 · rw[ip,if_pos (.inl aS)];exact h.kin r
 · rw[jn,if_neg aS];exact h.outs o ho
 · rw[kf];have:(decide ((aY p.code n).op=30) || decide ((aY p.code n).op=31))=true:=by
    rw[Bool.or_eq_true,aq,aq];exact hop
   rw[this,Bool.true_and,Bool.or_eq_true,h.past i,aq]
   show _ ↔ (i:Int)<max s.past _
   omega
theorem LkI.out_ (h:LkI p n s)(hop:(aY p.code n).op=29)(h0:0<=(aY p.code n).k)(h1:(aY p.code n).k<(p.outs.length:Int)) :
 LkI p (n+1) { s with outs:=s.outs.set (aY p.code n).k.toNat true }:=by
 refine⟨h.good,h.klen,fun r h0 h1=>?_,fun r=>?_,by simp[h.olen],fun o ho=>?_,fun i=>?_⟩
 · rw[ip,if_pos (.inl aS)];exact h.kinds r h0 h1
 · rw[ip,if_pos (.inl aS)];exact h.kin r
 · show (s.outs.set (aY p.code n).k.toNat true).getD o false=true ↔ _
   rw[jn,ah,List.getElem?_set];have hol:=h.olen
   by_cases e:(aY p.code n).k=(o:Int)
   · rw[if_pos aS,if_pos aS,if_pos ⟨hop,e⟩];simp
   · rw[if_neg aS,if_neg aS,<- ah,Nat.add_zero];exact h.outs o ho
 · rw[kf];have:(decide ((aY p.code n).op=30) || decide ((aY p.code n).op=31))=false:=by
    rw[aj aS,aj aS];rfl
   rw[this,Bool.false_and,Bool.or_false];exact h.past i
end
section
variable {p:PV} {n:Nat} {s:LkV}
theorem LkI.gave (h:LkI p n s)(hr:0<=p.regs)(hop:(aY p.code n).op<29)(ha0:0<=(aY p.code n).a){b:Bool}{k:Int}(hg:b=false->cZ p (bG p n) (aY p.code n)=k/\(k=1\/k=2)) :
 (fp { s with bad:=b } (aY p.code n).a k).bad=(b || !(decide ((aY p.code n).a<p.regs) && decide (dd p n (aY p.code n).a=0))) /\
  ((fp { s with bad:=b } (aY p.code n).a k).bad=false->LkI p (n+1) (fp { s with bad:=b } (aY p.code n).a k)):=by
 have hgb:=h.gb hr (aY p.code n).a ha0;rw[givesV_eq];simp only[hgb];refine⟨trivial,fun e=>?_⟩;rw[Bool.or_eq_false_iff] at e;obtain⟨e1,e2⟩:=e;subst e1;simp only[e2];have e3:(decide ((aY p.code n).a<p.regs) && decide (dd p n (aY p.code n).a=0))=true:=by simpa using e2
 rw[av,aq,aq] at e3;obtain⟨g1,g2⟩:=hg rfl;have:=h.give hr hop ha0 e3.1 e3.2 g1 g2;have hb:=h.good
 cases s
 simp only at hb this ⊢;subst hb;simpa using this
end
def okN (p:PV)(n:Nat):Bool:=okR p n && (decide ((aY p.code n).op≠29) || decide (dM p n (aY p.code n).k.toNat=0))
section
variable {p:PV} {n:Nat} {s:LkV}
theorem signOut_12 (op:Int):fB op=1\/fB op=2:=by unfold fB;split <;> omega
theorem n8 (h:LkI p n s)(hr:0<=p.regs)(hok:InsOk (aY p.code n))(hs:5<=(aY p.code n).op/\(aY p.code n).op<=20) :
 (bV p s n (aY p.code n)).bad=!okN p n/\((bV p s n (aY p.code n)).bad=false->LkI p (n+1) (bV p s n (aY p.code n))):=by
 obtain⟨_,ha0,_,_,_⟩:=hok;have tb:=h.tk hr (aY p.code n).b;have tc:=h.tk hr (aY p.code n).c;have hb:=h.good;have his:fC (aY p.code n).op=true:=am hs;have hgr:cZ p (bG p n) (aY p.code n)=fB (aY p.code n).op:=by unfold cZ;rw[if_pos his]
 have h12:=signOut_12 (aY p.code n).op;have e:bV p s n (aY p.code n)=fp { s with bad:=decide (bG p n (aY p.code n).b=0) || !(decide (fA (aY p.code n).op=0) || decide (bG p n (aY p.code n).b=fA (aY p.code n).op)) || (if (aY p.code n).op≠5/\(aY p.code n).op≠6 then decide (bG p n (aY p.code n).c=0) || !decide (bG p n (aY p.code n).c=bG p n (aY p.code n).b) else false) } (aY p.code n).a (fB (aY p.code n).op):=by
  unfold bV;rw[if_pos his];unfold reckV;simp only[iG,cJ,tb,tc,hb,Bool.false_or]
  by_cases q:(aY p.code n).op≠5/\(aY p.code n).op≠6
  · rw[if_pos q,if_pos q];simp only[tc,Bool.or_assoc]
  · rw[if_neg q,if_neg q];simp only[Bool.or_false]
 rw[e];obtain⟨g1,g2⟩:=h.gave hr aS ha0 (b:=decide (bG p n (aY p.code n).b=0) || !(decide (fA (aY p.code n).op=0) || decide (bG p n (aY p.code n).b=fA (aY p.code n).op)) || (if (aY p.code n).op≠5/\(aY p.code n).op≠6 then decide (bG p n (aY p.code n).c=0) || !decide (bG p n (aY p.code n).c=bG p n (aY p.code n).b) else false)) (fun _=>⟨hgr,h12⟩);refine⟨?_,g2⟩;rw[g1];unfold okN okR du;rw[if_pos his,hgr,aj (show ¬ 29<=(aY p.code n).op by omega),am (show (aY p.code n).op≠29 by omega)];have e12:(decide (fB (aY p.code n).op=1) || decide (fB (aY p.code n).op=2))=true:=by
  rw[Bool.or_eq_true,aq,aq];exact h12
 rw[e12];have e6:decide ((aY p.code n).op<=6)=!decide ((aY p.code n).op≠5/\(aY p.code n).op≠6):=by
  by_cases q:(aY p.code n).op<=6
  · rw[am q,aj aS];rfl
  · rw[aj q,am aS];rfl
 rw[e6];generalize bG p n (aY p.code n).b=TB;generalize bG p n (aY p.code n).c=TC;generalize fA (aY p.code n).op=SI;generalize decide ((aY p.code n).a<p.regs)=G;generalize decide (dd p n (aY p.code n).a=0)=G2
 by_cases q:(aY p.code n).op≠5/\(aY p.code n).op≠6
 · rw[if_pos q,am q]
   by_cases a1:TB=0 <;> by_cases a2:TC=TB <;> by_cases a3:SI=0 <;> by_cases a4:TB=SI <;> cases G <;> cases G2 <;> simp_all
 · rw[if_neg q,aj q]
   by_cases a1:TB=0 <;> by_cases a3:SI=0 <;> by_cases a4:TB=SI <;> cases G <;> cases G2 <;> simp_all
end
section
variable {p:PV} {n:Nat} {s:LkV}
theorem jJ (h:LkI p n s)(hr:0<=p.regs)(hop:(aY p.code n).op<29)(ha0:0<=(aY p.code n).a){B:Bool}{K:Int}(e:bV p s n (aY p.code n)=fp { s with bad:=B } (aY p.code n).a K)
 (hg:B=false->cZ p (bG p n) (aY p.code n)=K/\(K=1\/K=2)) (ht:(du p n (aY p.code n) && (decide (cZ p (bG p n) (aY p.code n)=1) || decide (cZ p (bG p n) (aY p.code n)=2)))=!B) :
 (bV p s n (aY p.code n)).bad=!okN p n/\((bV p s n (aY p.code n)).bad=false->LkI p (n+1) (bV p s n (aY p.code n))):=by
 obtain⟨g1,g2⟩:=h.gave hr hop ha0 hg;rw[e];refine⟨?_,g2⟩;rw[g1];unfold okN okR;rw[aj (show ¬ 29<=(aY p.code n).op by omega),am (show (aY p.code n).op≠29 by omega)];generalize decide ((aY p.code n).a<p.regs)=G at *;generalize decide (dd p n (aY p.code n).a=0)=G2 at *;generalize (decide (cZ p (bG p n) (aY p.code n)=1) || decide (cZ p (bG p n) (aY p.code n)=2))=W at *;generalize du p n (aY p.code n)=T at *;clear hg g1 g2 e
 cases B <;> cases G <;> cases G2 <;> cases T <;> cases W <;> simp_all
theorem LkI.same (h:LkI p n s):s={ s with bad:=false }:=by
 have:=h.good
 cases s
 simp_all
theorem iT {op:Int}(h:op<5\/20<op):fC op=false:=aj aS
theorem step_1 (h:LkI p n s)(hr:0<=p.regs)(ha0:0<=(aY p.code n).a)(ho:(aY p.code n).op=1) :
 (bV p s n (aY p.code n)).bad=!okN p n/\((bV p s n (aY p.code n)).bad=false->LkI p (n+1) (bV p s n (aY p.code n))):=by
 have hs:=iT (op:=(aY p.code n).op) aS;have hg:cZ p (bG p n) (aY p.code n)=1:=by unfold cZ;rw[hs,if_neg aZ,if_pos aS,ho]
 refine jJ h hr aS ha0 (B:=false) (K:=1) ?_ (fun _=>⟨hg,.inl rfl⟩) ?_
 · unfold bV;rw[hs,if_neg aZ,if_pos ho,<- h.same]
 · rw[hg];unfold du;rw[hs,if_neg aZ,if_neg aS,if_neg aS,if_neg aS,if_neg aS,if_neg aS,if_neg aS]
   rfl
theorem step_2 (h:LkI p n s)(hr:0<=p.regs)(ha0:0<=(aY p.code n).a)(ho:(aY p.code n).op=2) :
 (bV p s n (aY p.code n)).bad=!okN p n/\((bV p s n (aY p.code n)).bad=false->LkI p (n+1) (bV p s n (aY p.code n))):=by
 have hs:=iT (op:=(aY p.code n).op) aS;have hg:cZ p (bG p n) (aY p.code n)=2:=by unfold cZ;rw[hs,if_neg aZ,if_pos aS,ho]
 refine jJ h hr aS ha0 (B:=!(decide ((aY p.code n).k=0) || decide ((aY p.code n).k=1))) (K:=2) ?_ (fun _=>⟨hg,.inr rfl⟩) ?_
 · unfold bV;rw[hs,if_neg aZ,if_neg aS,if_pos ho];unfold cJ;rw[h.good,Bool.false_or]
 · rw[hg];unfold du;rw[hs,if_neg aZ,if_pos ho];simp
theorem step_3 (h:LkI p n s)(hr:0<=p.regs)(ha0:0<=(aY p.code n).a)(ho:(aY p.code n).op=3) :
 (bV p s n (aY p.code n)).bad=!okN p n/\((bV p s n (aY p.code n)).bad=false->LkI p (n+1) (bV p s n (aY p.code n))):=by
 have hs:=iT (op:=(aY p.code n).op) aS;have hg:cZ p (bG p n) (aY p.code n)=bG p n (aY p.code n).b:=by unfold cZ;rw[hs,if_neg aZ,if_neg aS,if_pos ho]
 have h12:bG p n (aY p.code n).b=0\/bG p n (aY p.code n).b=1\/bG p n (aY p.code n).b=2:=by
  unfold bG;split
  · exact .inl rfl
  · exact h.kin _
 refine jJ h hr aS ha0 (B:=decide (bG p n (aY p.code n).b=0)) (K:=bG p n (aY p.code n).b) ?_ (fun e=>⟨hg,by have:=of_decide_eq_false e;omega⟩) ?_
 · unfold bV;rw[hs,if_neg aZ,if_neg aS,if_neg aS,if_pos ho];simp only[iG,h.tk hr,h.good,Bool.false_or]
 · rw[hg];unfold du;rw[hs,if_neg aZ,if_neg aS,if_pos ho];generalize bG p n (aY p.code n).b=TB at *;rcases h12 with q | q | q <;> subst q <;> rfl
theorem step_27 (h:LkI p n s)(hr:0<=p.regs)(ha0:0<=(aY p.code n).a)(ho:(aY p.code n).op=27) :
 (bV p s n (aY p.code n)).bad=!okN p n/\((bV p s n (aY p.code n)).bad=false->LkI p (n+1) (bV p s n (aY p.code n))):=by
 have hs:=iT (op:=(aY p.code n).op) aS;have hg:cZ p (bG p n) (aY p.code n)=bG p n (aY p.code n).c:=by unfold cZ;rw[hs,if_neg aZ,if_neg aS,if_neg aS,if_pos ho]
 have h12:bG p n (aY p.code n).c=0\/bG p n (aY p.code n).c=1\/bG p n (aY p.code n).c=2:=by
  unfold bG;split
  · exact .inl rfl
  · exact h.kin _
 refine jJ h hr aS ha0 (B:=decide (bG p n (aY p.code n).b=0) || !decide (bG p n (aY p.code n).b=2) || decide (bG p n (aY p.code n).c=0) || decide (bG p n (aY p.code n).k=0) || !decide (bG p n (aY p.code n).k=bG p n (aY p.code n).c)) (K:=bG p n (aY p.code n).c) ?_ (fun e=>⟨hg,by
  simp only[Bool.or_eq_false_iff,aE] at e;omega⟩) ?_
 · unfold bV;rw[hs,if_neg aZ,if_neg aS,if_neg aS,if_neg aS,if_pos ho];simp only[iG,cJ,h.tk hr,h.good,Bool.false_or]
 · rw[hg];unfold du;rw[hs,if_neg aZ,if_neg aS,if_neg aS,if_pos ho];generalize bG p n (aY p.code n).b=TB at *;generalize bG p n (aY p.code n).c=TC at *;generalize bG p n (aY p.code n).k=TK at *;clear hg
   by_cases a1:TB=2
   · subst a1
     by_cases a2:TK=TC
     · subst a2;rcases h12 with q | q | q <;> subst q <;> rfl
     · rcases h12 with q | q | q <;> subst q <;> simp[a2]
   · simp[a1]
end
theorem valueB_12 {t n:Int}(h:fN t n=true):t=1\/t=2:=by
 unfold fN at h;rw[Bool.or_eq_true,beq_iff_eq,av,beq_iff_eq] at h;omega
section
variable {p:PV} {n:Nat} {s:LkV}
theorem step_21 (hm:mayB p=true)(h:LkI p n s)(ha0:0<=(aY p.code n).a)(ho:(aY p.code n).op=21) :
 (bV p s n (aY p.code n)).bad=!okN p n/\((bV p s n (aY p.code n)).bad=false->LkI p (n+1) (bV p s n (aY p.code n))):=by
 obtain⟨_,_,hr,_,_,_,hcl,_⟩:=dV.1 hm;have hs:=iT (op:=(aY p.code n).op) aS;have htk:du p n (aY p.code n)=true:=by
  unfold du;rw[hs,if_neg aZ,if_neg aS,if_neg aS,if_neg aS,if_neg aS,if_neg aS,if_neg aS]
 by_cases hk:(aY p.code n).k<0\/(p.cells.length:Int)<=(aY p.code n).k
 · have hg:cZ p (bG p n) (aY p.code n)=0:=by unfold cZ;rw[hs,if_neg aZ,if_neg aS,if_neg aS,if_neg aS,if_neg aS,if_neg aS]
   refine jJ h hr aS ha0 (B:=true) (K:=0) ?_ (fun e=>by cases e) ?_
   · unfold bV;rw[hs,if_neg aZ,if_neg aS,if_neg aS,if_neg aS,if_neg aS,if_pos ho];simp only[mo,h.good,Bool.false_or,if_pos hk,am hk]
   · rw[hg,htk];rfl
 · have hg:cZ p (bG p n) (aY p.code n)=(db p.cells (aY p.code n).k.toNat).1:=by unfold cZ;rw[hs,if_neg aZ,if_neg aS,if_neg aS,if_neg aS,if_pos ⟨ho,aS,aS⟩]
   have h12:=valueB_12 (hcl (aY p.code n).k.toNat aS);refine jJ h hr aS ha0 (B:=false) (K:=(db p.cells (aY p.code n).k.toNat).1) ?_ (fun e=>⟨hg,h12⟩) ?_
   · unfold bV;rw[hs,if_neg aZ,if_neg aS,if_neg aS,if_neg aS,if_neg aS,if_pos ho];simp only[mo,h.good,Bool.false_or,if_neg hk,aj hk]
   · rw[hg,htk];rcases h12 with q | q <;> rw[q] <;> rfl
theorem step_28 (hm:mayB p=true)(h:LkI p n s)(ha0:0<=(aY p.code n).a)(ho:(aY p.code n).op=28) :
 (bV p s n (aY p.code n)).bad=!okN p n/\((bV p s n (aY p.code n)).bad=false->LkI p (n+1) (bV p s n (aY p.code n))):=by
 obtain⟨hin,_,hr,_,_,_,_,_⟩:=dV.1 hm;have hs:=iT (op:=(aY p.code n).op) aS;have htk:du p n (aY p.code n)=true:=by
  unfold du;rw[hs,if_neg aZ,if_neg aS,if_neg aS,if_neg aS,if_neg aS,if_neg aS,if_neg aS]
 by_cases hk:(aY p.code n).k<0\/(p.ins.length:Int)<=(aY p.code n).k
 · have hg:cZ p (bG p n) (aY p.code n)=0:=by unfold cZ;rw[hs,if_neg aZ,if_neg aS,if_neg aS,if_neg aS,if_neg aS,if_neg aS]
   refine jJ h hr aS ha0 (B:=true) (K:=0) ?_ (fun e=>by cases e) ?_
   · unfold bV;rw[hs,if_neg aZ,if_neg aS,if_neg aS,if_neg aS,if_neg aS,if_neg aS,if_pos ho];simp only[ke,h.good,Bool.false_or,if_pos hk,am hk]
   · rw[hg,htk];rfl
 · have hg:cZ p (bG p n) (aY p.code n)=kAt p.ins (aY p.code n).k:=by unfold cZ;rw[hs,if_neg aZ,if_neg aS,if_neg aS,if_neg aS,if_neg aS,if_pos ⟨ho,aS,aS⟩]
   have h12:kAt p.ins (aY p.code n).k=1\/kAt p.ins (aY p.code n).k=2:=by
    have:=(fG.1 hin).1 (aY p.code n).k.toNat aS;unfold kAt;rw[if_neg aS];exact this
   refine jJ h hr aS ha0 (B:=false) (K:=kAt p.ins (aY p.code n).k) ?_ (fun e=>⟨hg,h12⟩) ?_
   · unfold bV;rw[hs,if_neg aZ,if_neg aS,if_neg aS,if_neg aS,if_neg aS,if_neg aS,if_pos ho];simp only[ke,h.good,Bool.false_or,if_neg hk,aj hk]
   · rw[hg,htk];rcases h12 with q | q <;> rw[q] <;> rfl
theorem step_32 (hm:mayB p=true)(h:LkI p n s)(ho:(aY p.code n).op=32) :
 (bV p s n (aY p.code n)).bad=!okN p n/\((bV p s n (aY p.code n)).bad=false->LkI p (n+1) (bV p s n (aY p.code n))):=by
 obtain⟨_,_,hr,_,_,_,hcl,_⟩:=dV.1 hm;have hs:=iT (op:=(aY p.code n).op) aS;have hok:okN p n=du p n (aY p.code n):=by
  unfold okN okR;rw[am (show 29<=(aY p.code n).op by omega),am (show (aY p.code n).op≠29 by omega)];simp
 have htk:du p n (aY p.code n)=(decide (0<=(aY p.code n).k) && (decide ((aY p.code n).k<(p.cells.length:Int)) && decide (bG p n (aY p.code n).a=(db p.cells (aY p.code n).k.toNat).1))):=by
  unfold du;rw[hs,if_neg aZ,if_neg aS,if_neg aS,if_neg aS,if_neg aS,if_pos ho]
 rw[hok,htk];have e:bV p s n (aY p.code n)={ s with bad:=decide (bG p n (aY p.code n).a=0) || decide ((aY p.code n).k<0\/(p.cells.length:Int)<=(aY p.code n).k) || !decide (bG p n (aY p.code n).a=(if (aY p.code n).k<0\/(p.cells.length:Int)<=(aY p.code n).k then 0 else (db p.cells (aY p.code n).k.toNat).1)) }:=by
  unfold bV;rw[hs,if_neg aZ,if_neg aS,if_neg aS,if_neg aS,if_neg aS,if_neg aS,if_neg aS,if_neg aS,if_pos ho];simp only[iG,mo,cJ,h.tk hr,h.good,Bool.false_or]
 rw[e]
 by_cases hk:(aY p.code n).k<0\/(p.cells.length:Int)<=(aY p.code n).k
 · refine⟨?_,fun q=>by simp[hk] at q⟩;simp only[am hk];rcases hk with q | q
   · rw[aj (show ¬ 0<=(aY p.code n).k by omega)];simp
   · rw[aj (show ¬ (aY p.code n).k<(p.cells.length:Int) by omega)];simp
 · have h12:=valueB_12 (hcl (aY p.code n).k.toNat aS);simp only[if_neg hk,aj hk,am (show 0<=(aY p.code n).k by omega),am (show (aY p.code n).k<(p.cells.length:Int) by omega)];generalize (db p.cells (aY p.code n).k.toNat).1=c at *;generalize bG p n (aY p.code n).a=TA at *
   by_cases a1:TA=c
   · subst a1;have hne:¬ TA=0:=aS;simp only[aj hne];refine⟨by simp,fun _=>?_⟩;have hx:=h.none_ ho;rw[h.same] at hx;simpa using hx
   · simp[a1]
theorem step_30 (hm:mayB p=true)(h:LkI p n s)(ho:(aY p.code n).op=30\/(aY p.code n).op=31) :
 (bV p s n (aY p.code n)).bad=!okN p n/\((bV p s n (aY p.code n)).bad=false->LkI p (n+1) (bV p s n (aY p.code n))):=by
 obtain⟨_,_,hr,_,_,_,_,_⟩:=dV.1 hm;have hs:=iT (op:=(aY p.code n).op) aS;have hok:okN p n=du p n (aY p.code n):=by
  unfold okN okR;rw[am (show 29<=(aY p.code n).op by omega),am (show (aY p.code n).op≠29 by omega)];simp
 have htk:du p n (aY p.code n)=(decide (0<=(aY p.code n).k) && (decide ((aY p.code n).k<=(p.code.length:Int) - 1 - (n:Int)) && decide (bG p n (aY p.code n).a=2))):=by
  unfold du;rw[hs,if_neg aZ,if_neg aS,if_neg aS,if_neg aS,if_neg aS,if_neg aS,if_pos ho]
 rw[hok,htk];have e:bV p s n (aY p.code n)={ s with bad:=decide (bG p n (aY p.code n).a=0) || !(decide (bG p n (aY p.code n).a=2) && (decide (0<=(aY p.code n).k) && decide ((aY p.code n).k<=(p.code.length:Int) - 1 - (n:Int)))),past:=max s.past ((n:Int)+1+min (aY p.code n).k (p.code.length:Int)) }:=by
  unfold bV;rw[hs,if_neg aZ,if_neg aS,if_neg aS,if_neg aS,if_neg aS,if_neg aS,if_neg aS,if_neg aS,if_neg aS];simp only[iG,cJ,h.tk hr,h.good,Bool.false_or]
 rw[e]
 by_cases h0:0<=(aY p.code n).k
 · by_cases h1:(aY p.code n).k<=(p.code.length:Int) - 1 - (n:Int)
   · have hx:=h.skip_ ho h0 h1;simp only[am h0,am h1];generalize bG p n (aY p.code n).a=TA at *
     by_cases a1:TA=2
     · subst a1;refine⟨by simp,fun _=>?_⟩;have hb:=h.good
       cases s
       simp only at hb hx ⊢;subst hb;simpa using hx
     · simp[a1]
   · simp[h1]
 · simp[h0]
end
section
variable {p:PV} {n:Nat} {s:LkV}
theorem step_29 (hm:mayB p=true)(h:LkI p n s)(ho:(aY p.code n).op=29) :
 (bV p s n (aY p.code n)).bad=!okN p n/\((bV p s n (aY p.code n)).bad=false->LkI p (n+1) (bV p s n (aY p.code n))):=by
 obtain⟨_,hout,hr,_,_,_,_,_⟩:=dV.1 hm;have hs:=iT (op:=(aY p.code n).op) aS;have hsk:skipR p n=decide ((n:Int)<s.past):=by
  have:skipR p n=fZ p n n:=rfl;rw[this,Bool.eq_iff_iff,h.past n,aq]
 have hok:okN p n=(du p n (aY p.code n) && (!decide ((n:Int)<s.past) && decide (dM p n (aY p.code n).k.toNat=0))):=by
  unfold okN okR;rw[am (show 29<=(aY p.code n).op by omega),aj (show ¬ (aY p.code n).op≠29 by omega),hsk];simp[Bool.and_assoc]
 have htk:du p n (aY p.code n)=(decide (0<=(aY p.code n).k) && (decide ((aY p.code n).k<(p.outs.length:Int)) && decide (bG p n (aY p.code n).a=kAt p.outs (aY p.code n).k))):=by
  unfold du;rw[hs,if_neg aZ,if_neg aS,if_neg aS,if_neg aS,if_pos ho]
 rw[hok,htk];have e:bV p s n (aY p.code n)=(if (decide (bG p n (aY p.code n).a=0) || decide ((aY p.code n).k<0\/(p.outs.length:Int)<=(aY p.code n).k) || !decide (bG p n (aY p.code n).a=(if (aY p.code n).k<0\/(p.outs.length:Int)<=(aY p.code n).k then 0 else kAt p.outs (aY p.code n).k)) || !decide (s.past<=(n:Int)))=true
  then { s with bad:=decide (bG p n (aY p.code n).a=0) || decide ((aY p.code n).k<0\/(p.outs.length:Int)<=(aY p.code n).k) || !decide (bG p n (aY p.code n).a=(if (aY p.code n).k<0\/(p.outs.length:Int)<=(aY p.code n).k then 0 else kAt p.outs (aY p.code n).k)) || !decide (s.past<=(n:Int)) }
  else { s with bad:=(decide (bG p n (aY p.code n).a=0) || decide ((aY p.code n).k<0\/(p.outs.length:Int)<=(aY p.code n).k) || !decide (bG p n (aY p.code n).a=(if (aY p.code n).k<0\/(p.outs.length:Int)<=(aY p.code n).k then 0 else kAt p.outs (aY p.code n).k)) || !decide (s.past<=(n:Int))) || !(!(s.outs.getD (aY p.code n).k.toNat false)),outs:=s.outs.set (aY p.code n).k.toNat true }):=by
  unfold bV;rw[hs,if_neg aZ,if_neg aS,if_neg aS,if_neg aS,if_neg aS,if_neg aS,if_neg aS,if_pos ho];simp only[iG,ke,cJ,h.tk hr,h.good,Bool.false_or]
 rw[e]
 by_cases hk:(aY p.code n).k<0\/(p.outs.length:Int)<=(aY p.code n).k
 · rw[if_pos (by simp[hk])];refine⟨?_,fun q=>by simp[hk] at q⟩;simp only[am hk];rcases hk with q | q
   · rw[aj (show ¬ 0<=(aY p.code n).k by omega)];simp
   · rw[aj (show ¬ (aY p.code n).k<(p.outs.length:Int) by omega)];simp
 · have h12:kAt p.outs (aY p.code n).k=1\/kAt p.outs (aY p.code n).k=2:=by
    have:=(fG.1 hout).1 (aY p.code n).k.toNat aS;unfold kAt;rw[if_neg aS];exact this
   have hx:=h.out_ ho aS aS;have hoo:=h.outs (aY p.code n).k.toNat aS;simp only[if_neg hk,aj hk,am (show 0<=(aY p.code n).k by omega),am (show (aY p.code n).k<(p.outs.length:Int) by omega)];generalize kAt p.outs (aY p.code n).k=c at *;generalize bG p n (aY p.code n).a=TA at *
   by_cases a1:TA=c
   · subst a1;have hne:¬ TA=0:=aS
     by_cases a2:s.past<=(n:Int)
     · simp only[aj hne,am a2,aj (show ¬ (n:Int)<s.past by omega)];rw[if_neg aZ]
       by_cases a3:dM p n (aY p.code n).k.toNat=0
       · have a4:s.outs.getD (aY p.code n).k.toNat false=false:=by
          cases q:s.outs.getD (aY p.code n).k.toNat false with
          | false=>rfl
          | true=>exact absurd a3 (hoo.1 q)
         rw[a4,am a3];refine⟨by simp,fun _=>?_⟩;have hb:=h.good
         cases s
         simp only at hb hx ⊢;subst hb;simpa using hx
       · have a4:=hoo.2 a3;rw[a4,aj a3];simp
     · simp only[aj a2,am (show (n:Int)<s.past by omega)];rw[if_pos aZ];simp
   · rw[if_pos (by simp[a1])];simp[a1]
theorem lk_step (hm:mayB p=true)(h:LkI p n s)(hn:n<p.code.length) :
 (bV p s n (aY p.code n)).bad=!okN p n/\((bV p s n (aY p.code n)).bad=false->LkI p (n+1) (bV p s n (aY p.code n))):=by
 obtain⟨_,_,hr,_,_,_,_,hco⟩:=dV.1 hm;have hok:=of_decide_eq_true (hco n hn);have hc:=hok.1;rcases lv (aY p.code n).op with (q | q | q | q) | (q | q | q) | q | q | q
 · exact step_1 h hr hok.2.1 q
 · exact step_2 h hr hok.2.1 q
 · exact step_21 hm h hok.2.1 q
 · have:(aY p.code n).op=28\/(aY p.code n).op=29\/((aY p.code n).op=30\/(aY p.code n).op=31)\/(aY p.code n).op=32:=aS;rcases this with r | r | r | r
   · exact step_28 hm h hok.2.1 r
   · exact step_29 hm h r
   · exact step_30 hm h r
   · exact step_32 hm h r
 · exact step_3 h hr hok.2.1 q
 · exact n8 h hr hok aS
 · exact n8 h hr hok aS
 · exact n8 h hr hok aS
 · exact step_27 h hr hok.2.1 q
 · exact absurd (cls_0 q) hc
theorem lk_all (hm:mayB p=true):∀ n,n<=p.code.length->((cj p n).bad=!(List.range n).all (okN p))/\((cj p n).bad=false->LkI p n (cj p n)):=by
 obtain⟨_,_,hr,_⟩:=dV.1 hm;intro n
 induction n with
 | zero=>intro _;exact⟨rfl,fun _=>lk_start p hr⟩
 | succ n ih=>
   intro hn;obtain⟨i1,i2⟩:=ih aS;rw[List.range_succ,List.all_append]
   show (if (cj p n).bad then cj p n else bV p (cj p n) n (aY p.code n)).bad=_/\((if (cj p n).bad then cj p n else bV p (cj p n) n (aY p.code n)).bad=false->LkI p (n+1) (if (cj p n).bad then cj p n else bV p (cj p n) n (aY p.code n)))
   cases hb:(cj p n).bad with
   | true=>
     rw[hb] at i1;simp only[if_true];rw[hb];have:(List.range n).all (okN p)=false:=by cases q:(List.range n).all (okN p) with | false=>rfl | true=>rw[q] at i1;cases i1
     rw[this];exact⟨rfl,fun e=>by cases e⟩
   | false=>
     have hi:=i2 hb;rw[hb] at i1;have:(List.range n).all (okN p)=true:=by cases q:(List.range n).all (okN p) with | true=>rfl | false=>rw[q] at i1;cases i1
     rw[this];simp only[Bool.false_eq_true,if_false];obtain⟨s1,s2⟩:=lk_step hm hi aS;exact⟨by rw[s1];simp,s2⟩
end
theorem outsR_mono (p:PV)(o:Nat){n m:Nat}(h:n<=m):dM p n o<=dM p m o:=by
 induction m with
 | zero=>rw[show n=0 by omega];exact Nat.le_refl _
 | succ m ih=>
   by_cases q:n=m+1
   · rw[q];exact Nat.le_refl _
   · rw[jn];have:=ih aS;omega
theorem outsR_one (p:PV):∀ n,(∀ i,i<n->okN p i=true)->∀ o,dM p n o<=1:=by
 intro n
 induction n with
 | zero=>intro _ o;simp[dM]
 | succ n ih=>
   intro h o;have h1:=ih (fun i hi=>h i aS) o;rw[jn]
   by_cases q:(aY p.code n).op=29/\(aY p.code n).k=(o:Int)
   · have hn:=h n aS;unfold okN at hn;rw[av,Bool.or_eq_true,aq,aq] at hn;have:dM p n o=0:=by
      rcases hn.2 with e | e
      · exact absurd q.1 e
      · rwa [q.2,ax] at e
     rw[if_pos q,this];exact Nat.le_refl _
   · rw[if_neg q];exact h1
theorem verify_is (p:PV):dF p=j9 p:=by
 unfold dF j9
 cases hm:mayB p with
 | false=>rfl
 | true=>
   obtain⟨a1,a2⟩:=lk_all hm p.code.length aW;rw[Bool.true_and,Bool.true_and,Bool.eq_iff_iff,av,av,Bool.not_eq_true'];have outsAll:(cj p p.code.length).bad=false->((cj p p.code.length).outs.all id=true ↔ ∀ o,o<p.outs.length->dM p p.code.length o≠0):=fun hb=>by
    have hi:=a2 hb;rw[List.all_eq_true];constructor
    · intro h o ho;refine (hi.outs o ho).1 ?_;have hl:o<(cj p p.code.length).outs.length:=by rw[hi.olen];exact ho
      rw[ah,ap hl];exact h _ (List.getElem_mem hl)
    · intro h x hx;obtain⟨o,ho,e⟩:=List.getElem_of_mem hx;have h2:=(hi.outs o (by rw[<- hi.olen];exact ho)).2 (h o (by rw[<- hi.olen];exact ho));rw[ah,ap ho] at h2;rw[<- e];exact h2
   constructor
   · rintro ⟨hb,ho⟩;rw[hb] at a1;have hall:(List.range p.code.length).all (okN p)=true:=by cases q:(List.range p.code.length).all (okN p) with | true=>rfl | false=>rw[q] at a1;cases a1
     rw[List.all_eq_true] at hall;have hk:∀ i,i<p.code.length->okN p i=true:=fun i hi=>hall i (List.mem_range.2 hi)
     refine⟨List.all_eq_true.2 (fun i hi=>?_),List.all_eq_true.2 (fun o hx=>?_)⟩
     · have:=hk i (List.mem_range.1 hi);unfold okN at this;rw[av] at this;exact this.1
     · have h1:=outsR_one p p.code.length hk o;have h2:=(outsAll hb).1 ho o (List.mem_range.1 hx);exact am aS
   · rintro ⟨h1,h2⟩;rw[List.all_eq_true] at h1 h2;have hk:(List.range p.code.length).all (okN p)=true:=List.all_eq_true.2 (fun i hi=>by
      have hi':=List.mem_range.1 hi;have hr:=h1 i hi;unfold okN;rw[hr,Bool.true_and,Bool.or_eq_true,aq,aq]
      by_cases q:(aY p.code i).op=29
      · right
        have ht:du p i (aY p.code i)=true:=by
         unfold okR at hr;rw[av] at hr;exact hr.1
        have hs:=iT (op:=(aY p.code i).op) aS;unfold du at ht;rw[hs,if_neg aZ,if_neg aS,if_neg aS,if_neg aS,if_pos q,av,av,aq,aq] at ht;have e1:=of_decide_eq_true (h2 (aY p.code i).k.toNat (List.mem_range.2 aS));have e2:=outsR_mono p (aY p.code i).k.toNat (show i+1<=p.code.length by omega);rw[jn,if_pos ⟨q,aS⟩] at e2;omega
      · exact .inl q)
     rw[hk] at a1;have hb:(cj p p.code.length).bad=false:=a1;refine⟨hb,(outsAll hb).2 (fun o ho=>?_)⟩;have:=of_decide_eq_true (h2 o (List.mem_range.2 ho));omega
