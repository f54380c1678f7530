/- Parts: PlainVerify. -/
import Derived.Test.YtmeebofhlilcmaaGreatPr02
import Derived.Test.YtmeebofhlilcmaaGreatPr04
set_option linter.unusedVariables false
set_option linter.unusedSimpArgs false
set_option maxRecDepth 100000
set_option maxHeartbeats 40000000
namespace Go.Proofs.YtmeebofhlilcmaaGreat
open Go.RowKit
def qu3 (op:Int):Int:=if op=12∨op=13 then 0 else if op=6∨18≤op then 2 else 1
def qn6 (op:Int):Int:=if op=6∨12≤op then 2 else 1
def qy9 (op:Int):Bool:=decide (5≤op∧op≤20)
structure LkV where
  kinds:List Int
  outs:List Bool
  past:Int
  bad:Bool
def kAt (l:List Int) (n:Int):Int:=if n<0 then 0 else l.getD n.toNat 0
def qh5 (s:LkV) (b:Bool):LkV:={ s with bad:=s.bad || !b }
def qe6 (s:LkV) (n:Int):LkV × Int:=if n<0∨(s.kinds.length:Int)≤n∨kAt s.kinds n=0 then ({ s with bad:=true },0) else (s,kAt s.kinds n)
def qm6 (s:LkV) (n kind:Int):LkV:=if n<0∨(s.kinds.length:Int)≤n∨kAt s.kinds n≠0 then { s with bad:=true } else { s with kinds:=s.kinds.set n.toNat kind }
def oneV (s:LkV) (l:List Int) (n:Int):LkV × Int:=if n<0∨(l.length:Int)≤n then ({ s with bad:=true },0) else (s,kAt l n)
def cellV (p:PV) (s:LkV) (n:Int):LkV × Int:=if n<0∨(p.cells.length:Int)≤n then ({ s with bad:=true },0) else (s,(qh4 p.cells n.toNat).1)
def reckV (s:LkV) (x:Ins):LkV :=
  let t:=qe6 s x.b
  let s1:=qh5 t.1 (decide (qu3 x.op=0) || decide (t.2=qu3 x.op))
  let s2:=if x.op≠5∧x.op≠6 then (let u:=qe6 s1 x.c;qh5 u.1 (decide (u.2=t.2))) else s1
  qm6 s2 x.a (qn6 x.op)
def qc4 (p:PV) (s:LkV) (i:Nat) (x:Ins):LkV :=
  if qy9 x.op then reckV s x
  else if x.op=1 then qm6 s x.a 1
  else if x.op=2 then qm6 (qh5 s (decide (x.k=0) || decide (x.k=1))) x.a 2
  else if x.op=3 then (let t:=qe6 s x.b;qm6 t.1 x.a t.2)
  else if x.op=27 then (let t:=qe6 s x.b;let s1:=qh5 t.1 (decide (t.2=2));let u:=qe6 s1 x.c;let v:=qe6 u.1 x.k;qm6 (qh5 v.1 (decide (v.2=u.2))) x.a u.2)
  else if x.op=21 then (let t:=cellV p s x.k;qm6 t.1 x.a t.2)
  else if x.op=28 then (let t:=oneV s p.ins x.k;qm6 t.1 x.a t.2)
  else if x.op=29 then
    (let t:=qe6 s x.a;let u:=oneV t.1 p.outs x.k;let s1:=qh5 (qh5 u.1 (decide (t.2=u.2))) (decide (s.past≤(i:Int)))
     if s1.bad then s1 else { qh5 s1 (!(s1.outs.getD x.k.toNat false)) with outs:=s1.outs.set x.k.toNat true })
  else if x.op=32 then (let t:=qe6 s x.a;let u:=cellV p t.1 x.k;qh5 u.1 (decide (t.2=u.2)))
  else
    (let t:=qe6 s x.a;let s1:=qh5 t.1 (decide (t.2=2) && (decide (0≤x.k) && decide (x.k≤(p.code.length:Int) - 1 - (i:Int))))
     { s1 with past:=max s1.past ((i:Int)+1+min x.k (p.code.length:Int)) })
def qf2 (p:PV):Nat→LkV
  | 0 => ⟨List.replicate p.regs.toNat 0,List.replicate p.outs.length false,0,false⟩
  | n+1 => if (qf2 p n).bad then qf2 p n else qc4 p (qf2 p n) n (qa0 p.code n)
def qf0 (p:PV):Bool:=mayB p && (!(qf2 p p.code.length).bad && (qf2 p p.code.length).outs.all id)
def qg9 (p:PV) (t:Int→Int) (x:Ins):Int :=
  if qy9 x.op then qn6 x.op
  else if x.op≤2 then x.op
  else if x.op=3 then t x.b
  else if x.op=27 then t x.c
  else if x.op=21∧0≤x.k∧x.k<(p.cells.length:Int) then (qh4 p.cells x.k.toNat).1
  else if x.op=28∧0≤x.k∧x.k<(p.ins.length:Int) then kAt p.ins x.k
  else 0
def qm8 (p:PV):Nat→Int→Int
  | 0,_ => 0
  | n+1,r => if 29≤(qa0 p.code n).op∨(qa0 p.code n).a≠r then qm8 p n r else if qm8 p n r≠0 then 9 else qg9 p (fun r => if r<0∨p.regs≤r then 0 else qm8 p n r) (qa0 p.code n)
def qb3 (p:PV) (i:Nat) (r:Int):Int:=if r<0∨p.regs≤r then 0 else qm8 p i r
def qh9 (p:PV) (i:Nat) (x:Ins):Bool :=
  if qy9 x.op then (decide (qb3 p i x.b≠0) && ((decide (qu3 x.op=0) || decide (qb3 p i x.b=qu3 x.op)) && (decide (x.op≤6) || decide (qb3 p i x.c=qb3 p i x.b))))
  else if x.op=2 then decide (x.k=0) || decide (x.k=1)
  else if x.op=3 then decide (qb3 p i x.b≠0)
  else if x.op=27 then decide (qb3 p i x.b=2) && (decide (qb3 p i x.c≠0) && decide (qb3 p i x.k=qb3 p i x.c))
  else if x.op=29 then decide (0≤x.k) && (decide (x.k<(p.outs.length:Int)) && decide (qb3 p i x.a=kAt p.outs x.k))
  else if x.op=32 then decide (0≤x.k) && (decide (x.k<(p.cells.length:Int)) && decide (qb3 p i x.a=(qh4 p.cells x.k.toNat).1))
  else if x.op=30∨x.op=31 then decide (0≤x.k) && (decide (x.k≤(p.code.length:Int) - 1 - (i:Int)) && decide (qb3 p i x.a=2))
  else true
def skipR (p:PV) (i:Nat):Bool:=(List.range i).any (fun k => (decide ((qa0 p.code k).op=30) || decide ((qa0 p.code k).op=31)) && decide ((i:Int) - (k:Int)≤(qa0 p.code k).k))
def okR (p:PV) (i:Nat):Bool :=
  qh9 p i (qa0 p.code i) && ((decide (29≤(qa0 p.code i).op) || (decide ((qa0 p.code i).a<p.regs) && (decide (qm8 p i (qa0 p.code i).a=0) && (decide (qg9 p (qb3 p i) (qa0 p.code i)=1) || decide (qg9 p (qb3 p i) (qa0 p.code i)=2))))) &&
    (decide ((qa0 p.code i).op≠29) || !skipR p i))
def vc1 (p:PV) (n:Nat) (o:Nat):Nat:=((List.range n).filter (fun i => decide ((qa0 p.code i).op=29) && decide ((qa0 p.code i).k=(o:Int)))).length
def rightR (p:PV):Bool:=mayB p && ((List.range p.code.length).all (okR p) && (List.range p.outs.length).all (fun o => decide (vc1 p p.code.length o=1)))
def tk (l:List Int) (n:Int):Int:=if n<0∨(l.length:Int)≤n then 0 else kAt l n
theorem ql6 (s:LkV) (n:Int):qe6 s n=({ s with bad:=s.bad || decide (tk s.kinds n=0) },tk s.kinds n):=by
  unfold qe6 tk
  by_cases h1:n<0∨(s.kinds.length:Int)≤n
  · rw [if_pos omg,if_pos h1];simp
  · rw [if_neg h1]
    by_cases h2:kAt s.kinds n=0
    · rw [if_pos omg,h2];simp
    · rw [if_neg omg];simp [h2]
def gb (l:List Int) (n:Int):Bool:=decide (n<0∨(l.length:Int)≤n∨kAt l n≠0)
theorem givesV_eq (s:LkV) (n kind:Int):qm6 s n kind={ s with bad:=s.bad || gb s.kinds n,kinds:=if gb s.kinds n then s.kinds else s.kinds.set n.toNat kind }:=by
  unfold qm6 gb
  by_cases h:n<0∨(s.kinds.length:Int)≤n∨kAt s.kinds n≠0
  · rw [if_pos h];simp [h]
  · rw [if_neg h];simp only [h];simp
theorem vd3 (s:LkV) (l:List Int) (n:Int):oneV s l n=({ s with bad:=s.bad || decide (n<0∨(l.length:Int)≤n) },if n<0∨(l.length:Int)≤n then 0 else kAt l n):=by
  unfold oneV
  by_cases h:n<0∨(l.length:Int)≤n
  · rw [if_pos h,if_pos h];simp [h]
  · rw [if_neg h,if_neg h];simp [h]
theorem vj0 (p:PV) (s:LkV) (n:Int):cellV p s n=({ s with bad:=s.bad || decide (n<0∨(p.cells.length:Int)≤n) },if n<0∨(p.cells.length:Int)≤n then 0 else (qh4 p.cells n.toNat).1):=by
  unfold cellV
  by_cases h:n<0∨(p.cells.length:Int)≤n
  · rw [if_pos h,if_pos h];simp [h]
  · rw [if_neg h,if_neg h];simp [h]
theorem kAt_set {l:List Int} {n:Int} (h0:0≤n) (h1:n<(l.length:Int)) (v:Int) {r:Int} (hr:0≤r):kAt (l.set n.toNat v) r=if r=n then v else kAt l r:=by
  unfold kAt;simp only [if_neg (show ¬ r<0 by omega),List.getD_eq_getElem?_getD,List.getElem?_set]
  by_cases h:r=n
  · subst h;simp only [if_true,if_pos (show r.toNat<l.length by omega)];rfl
  · simp only [if_neg (show ¬ n.toNat=r.toNat by omega),if_neg h]
def skipN (p:PV) (n i:Nat):Bool:=(List.range n).any (fun k => (decide ((qa0 p.code k).op=30) || decide ((qa0 p.code k).op=31)) && decide ((i:Int) - (k:Int)≤(qa0 p.code k).k))
structure LkI (p:PV) (n:Nat) (s:LkV):Prop where
  good:s.bad=false
  klen:s.kinds.length=p.regs.toNat
  kinds:∀ r,0≤r→r<p.regs→kAt s.kinds r=qm8 p n r
  kin:∀ r,qm8 p n r=0∨qm8 p n r=1∨qm8 p n r=2
  olen:s.outs.length=p.outs.length
  outs:∀ o,o<p.outs.length→(s.outs.getD o false=true ↔ vc1 p n o≠0)
  past:∀ i:Nat,(skipN p n i=true ↔ (i:Int)<s.past)
section
variable {p:PV} {n:Nat} {s:LkV}
theorem LkI.tk (h:LkI p n s) (hr:0≤p.regs) (r:Int):tk s.kinds r=qb3 p n r:=by
  unfold Go.Proofs.YtmeebofhlilcmaaGreat.tk qb3;have hk:(s.kinds.length:Int)=p.regs:=by rw [h.klen];omega
  rw [hk]
  by_cases q:r<0∨p.regs≤r
  · rw [if_pos q,if_pos q]
  · rw [if_neg q,if_neg q];exact h.kinds r omg omg
theorem LkI.gb (h:LkI p n s) (hr:0≤p.regs) (r:Int) (h0:0≤r):gb s.kinds r=!(decide (r<p.regs) && decide (qm8 p n r=0)):=by
  unfold Go.Proofs.YtmeebofhlilcmaaGreat.gb;have hk:(s.kinds.length:Int)=p.regs:=by rw [h.klen];omega
  rw [hk]
  by_cases q:p.regs≤r
  · rw [decide_eq_true omg,decide_eq_false (show ¬ r<p.regs by omega)];rfl
  · have e:=h.kinds r h0 omg;rw [decide_eq_true (show r<p.regs by omega),e]
    by_cases q2:qm8 p n r=0
    · rw [decide_eq_true q2,decide_eq_false omg];rfl
    · rw [decide_eq_false q2,decide_eq_true omg];rfl
theorem lk_start (p:PV) (hr:0≤p.regs):LkI p 0 (qf2 p 0) :=
  ⟨rfl,by simp [qf2],fun r h0 h1 => by
    show kAt (List.replicate p.regs.toNat 0) r=0
    unfold kAt;rw [if_neg omg,List.getD_eq_getElem?_getD,List.getElem?_replicate]
    split <;> rfl,fun r => .inl rfl,by simp [qf2],fun o ho => by
    show (List.replicate p.outs.length false).getD o false=true ↔ (vc1 p 0 o≠0)
    rw [List.getD_eq_getElem?_getD,List.getElem?_replicate,if_pos ho];simp [vc1],fun i => by
    show (skipN p 0 i=true ↔ (i:Int)<0)
    simp [skipN]⟩
end
theorem ql0 (p:PV) (n:Nat) (r:Int):qm8 p (n+1) r=if 29≤(qa0 p.code n).op∨(qa0 p.code n).a≠r then qm8 p n r else if qm8 p n r≠0 then 9 else qg9 p (qb3 p n) (qa0 p.code n):=rfl
theorem qp5 (p:PV) (n o:Nat):vc1 p (n+1) o=vc1 p n o+if (qa0 p.code n).op=29∧(qa0 p.code n).k=(o:Int) then 1 else 0:=by
  unfold vc1;rw [List.range_succ,List.filter_append,List.length_append]
  congr 1
  by_cases h:(qa0 p.code n).op=29∧(qa0 p.code n).k=(o:Int)
  · rw [if_pos h];simp [h.1,h.2]
  · rw [if_neg h];have:(decide ((qa0 p.code n).op=29) && decide ((qa0 p.code n).k=(o:Int)))=false:=by
      rw [Bool.and_eq_false_iff,decide_eq_false_iff_not,decide_eq_false_iff_not]
      by_cases h1:(qa0 p.code n).op=29
      · exact .inr (fun e => h ⟨h1,e⟩)
      · exact .inl h1
    simp [this]
theorem vb1 (p:PV) (n i:Nat):skipN p (n+1) i=(skipN p n i || ((decide ((qa0 p.code n).op=30) || decide ((qa0 p.code n).op=31)) && decide ((i:Int) - (n:Int)≤(qa0 p.code n).k))):=by
  unfold skipN;rw [List.range_succ,List.any_append];simp
section
variable {p:PV} {n:Nat} {s:LkV}
theorem LkI.give (h:LkI p n s) (hr:0≤p.regs) (hop:(qa0 p.code n).op<29) (ha0:0≤(qa0 p.code n).a) (ha:(qa0 p.code n).a<p.regs) (hk0:qm8 p n (qa0 p.code n).a=0) {k:Int} (hg:qg9 p (qb3 p n) (qa0 p.code n)=k) (hk:k=1∨k=2) :
    LkI p (n+1) { s with kinds:=s.kinds.set (qa0 p.code n).a.toNat k }:=by
  have hkl:(s.kinds.length:Int)=p.regs:=by rw [h.klen];omega
  refine ⟨h.good,by simp [h.klen],fun r h0 h1 => ?_,fun r => ?_,h.olen,fun o ho => ?_,fun i => ?_⟩
  · show kAt (s.kinds.set (qa0 p.code n).a.toNat k) r=_
    rw [kAt_set ha0 omg k h0,ql0]
    by_cases e:r=(qa0 p.code n).a
    · subst e;rw [if_pos rfl,if_neg omg,if_neg omg,hg]
    · rw [if_neg e,if_pos (.inr (fun q => e q.symm))];exact h.kinds r h0 h1
  · rw [ql0]
    by_cases e:r=(qa0 p.code n).a
    · subst e;rw [if_neg omg,if_neg omg,hg];omega
    · rw [if_pos (.inr (fun q => e q.symm))];exact h.kin r
  · rw [qp5,if_neg omg];exact h.outs o ho
  · rw [vb1];have:(decide ((qa0 p.code n).op=30) || decide ((qa0 p.code n).op=31))=false:=by
      rw [decide_eq_false omg,decide_eq_false omg];rfl
    rw [this,Bool.false_and,Bool.or_false];exact h.past i
theorem LkI.none_ (h:LkI p n s) (hop:(qa0 p.code n).op=32):LkI p (n+1) s:=by
  refine ⟨h.good,h.klen,fun r h0 h1 => ?_,fun r => ?_,h.olen,fun o ho => ?_,fun i => ?_⟩
  · rw [ql0,if_pos (.inl omg)];exact h.kinds r h0 h1
  · rw [ql0,if_pos (.inl omg)];exact h.kin r
  · rw [qp5,if_neg omg];exact h.outs o ho
  · rw [vb1];have:(decide ((qa0 p.code n).op=30) || decide ((qa0 p.code n).op=31))=false:=by
      rw [decide_eq_false omg,decide_eq_false omg];rfl
    rw [this,Bool.false_and,Bool.or_false];exact h.past i
theorem LkI.skip_ (h:LkI p n s) (hop:(qa0 p.code n).op=30∨(qa0 p.code n).op=31) (h0:0≤(qa0 p.code n).k) (h1:(qa0 p.code n).k≤(p.code.length:Int) - 1 - (n:Int)) :
    LkI p (n+1) { s with past:=max s.past ((n:Int)+1+min (qa0 p.code n).k (p.code.length:Int)) }:=by
  refine ⟨h.good,h.klen,fun r h0 h1 => ?_,fun r => ?_,h.olen,fun o ho => ?_,fun i => ?_⟩
  · rw [ql0,if_pos (.inl omg)];exact h.kinds r h0 h1
  · rw [ql0,if_pos (.inl omg)];exact h.kin r
  · rw [qp5,if_neg omg];exact h.outs o ho
  · rw [vb1];have:(decide ((qa0 p.code n).op=30) || decide ((qa0 p.code n).op=31))=true:=by
      rw [Bool.or_eq_true,decide_eq_true_eq,decide_eq_true_eq];exact hop
    rw [this,Bool.true_and,Bool.or_eq_true,h.past i,decide_eq_true_eq]
    show _ ↔ (i:Int)<max s.past _
    omega
theorem LkI.out_ (h:LkI p n s) (hop:(qa0 p.code n).op=29) (h0:0≤(qa0 p.code n).k) (h1:(qa0 p.code n).k<(p.outs.length:Int)) :
    LkI p (n+1) { s with outs:=s.outs.set (qa0 p.code n).k.toNat true }:=by
  refine ⟨h.good,h.klen,fun r h0 h1 => ?_,fun r => ?_,by simp [h.olen],fun o ho => ?_,fun i => ?_⟩
  · rw [ql0,if_pos (.inl omg)];exact h.kinds r h0 h1
  · rw [ql0,if_pos (.inl omg)];exact h.kin r
  · show (s.outs.set (qa0 p.code n).k.toNat true).getD o false=true ↔ _
    rw [qp5,List.getD_eq_getElem?_getD,List.getElem?_set];have hol:=h.olen
    by_cases e:(qa0 p.code n).k=(o:Int)
    · rw [if_pos omg,if_pos omg,if_pos ⟨hop,e⟩];simp
    · rw [if_neg omg,if_neg omg,← List.getD_eq_getElem?_getD,Nat.add_zero];exact h.outs o ho
  · rw [vb1];have:(decide ((qa0 p.code n).op=30) || decide ((qa0 p.code n).op=31))=false:=by
      rw [decide_eq_false omg,decide_eq_false omg];rfl
    rw [this,Bool.false_and,Bool.or_false];exact h.past i
end
section
variable {p:PV} {n:Nat} {s:LkV}
theorem LkI.gave (h:LkI p n s) (hr:0≤p.regs) (hop:(qa0 p.code n).op<29) (ha0:0≤(qa0 p.code n).a) {b:Bool} {k:Int} (hg:b=false→qg9 p (qb3 p n) (qa0 p.code n)=k∧(k=1∨k=2)) :
    (qm6 { s with bad:=b } (qa0 p.code n).a k).bad=(b || !(decide ((qa0 p.code n).a<p.regs) && decide (qm8 p n (qa0 p.code n).a=0))) ∧
      ((qm6 { s with bad:=b } (qa0 p.code n).a k).bad=false→LkI p (n+1) (qm6 { s with bad:=b } (qa0 p.code n).a k)):=by
  have hgb:=h.gb hr (qa0 p.code n).a ha0;rw [givesV_eq];simp only [hgb];refine ⟨trivial,fun e => ?_⟩;rw [Bool.or_eq_false_iff] at e;obtain ⟨e1,e2⟩:=e;subst e1;simp only [e2];have e3:(decide ((qa0 p.code n).a<p.regs) && decide (qm8 p n (qa0 p.code n).a=0))=true:=by simpa using e2
  rw [Bool.and_eq_true,decide_eq_true_eq,decide_eq_true_eq] at e3;obtain ⟨g1,g2⟩:=hg rfl;have:=h.give hr hop ha0 e3.1 e3.2 g1 g2;have hb:=h.good
  cases s
  simp only at hb this ⊢;subst hb;simpa using this
end
def okN (p:PV) (n:Nat):Bool:=okR p n && (decide ((qa0 p.code n).op≠29) || decide (vc1 p n (qa0 p.code n).k.toNat=0))
section
variable {p:PV} {n:Nat} {s:LkV}
theorem signOut_12 (op:Int):qn6 op=1∨qn6 op=2:=by unfold qn6;split <;> omega
theorem vj4 (h:LkI p n s) (hr:0≤p.regs) (hok:InsOk (qa0 p.code n)) (hs:5≤(qa0 p.code n).op∧(qa0 p.code n).op≤20) :
    (qc4 p s n (qa0 p.code n)).bad=!okN p n∧((qc4 p s n (qa0 p.code n)).bad=false→LkI p (n+1) (qc4 p s n (qa0 p.code n))):=by
  obtain ⟨_,ha0,_,_,_⟩:=hok;have tb:=h.tk hr (qa0 p.code n).b;have tc:=h.tk hr (qa0 p.code n).c;have hb:=h.good;have his:qy9 (qa0 p.code n).op=true:=decide_eq_true hs;have hgr:qg9 p (qb3 p n) (qa0 p.code n)=qn6 (qa0 p.code n).op:=by unfold qg9;rw [if_pos his]
  have h12:=signOut_12 (qa0 p.code n).op;have e:qc4 p s n (qa0 p.code n)=qm6 { s with bad:=decide (qb3 p n (qa0 p.code n).b=0) || !(decide (qu3 (qa0 p.code n).op=0) || decide (qb3 p n (qa0 p.code n).b=qu3 (qa0 p.code n).op)) || (if (qa0 p.code n).op≠5∧(qa0 p.code n).op≠6 then decide (qb3 p n (qa0 p.code n).c=0) || !decide (qb3 p n (qa0 p.code n).c=qb3 p n (qa0 p.code n).b) else false) } (qa0 p.code n).a (qn6 (qa0 p.code n).op):=by
    unfold qc4;rw [if_pos his];unfold reckV;simp only [ql6,qh5,tb,tc,hb,Bool.false_or]
    by_cases q:(qa0 p.code n).op≠5∧(qa0 p.code n).op≠6
    · rw [if_pos q,if_pos q];simp only [tc,Bool.or_assoc]
    · rw [if_neg q,if_neg q];simp only [Bool.or_false]
  rw [e];obtain ⟨g1,g2⟩:=h.gave hr omg ha0 (b:=decide (qb3 p n (qa0 p.code n).b=0) || !(decide (qu3 (qa0 p.code n).op=0) || decide (qb3 p n (qa0 p.code n).b=qu3 (qa0 p.code n).op)) || (if (qa0 p.code n).op≠5∧(qa0 p.code n).op≠6 then decide (qb3 p n (qa0 p.code n).c=0) || !decide (qb3 p n (qa0 p.code n).c=qb3 p n (qa0 p.code n).b) else false)) (fun _ => ⟨hgr,h12⟩);refine ⟨?_,g2⟩;rw [g1];unfold okN okR qh9;rw [if_pos his,hgr,decide_eq_false (show ¬ 29≤(qa0 p.code n).op by omega),decide_eq_true (show (qa0 p.code n).op≠29 by omega)];have e12:(decide (qn6 (qa0 p.code n).op=1) || decide (qn6 (qa0 p.code n).op=2))=true:=by
    rw [Bool.or_eq_true,decide_eq_true_eq,decide_eq_true_eq];exact h12
  rw [e12];have e6:decide ((qa0 p.code n).op≤6)=!decide ((qa0 p.code n).op≠5∧(qa0 p.code n).op≠6):=by
    by_cases q:(qa0 p.code n).op≤6
    · rw [decide_eq_true q,decide_eq_false omg];rfl
    · rw [decide_eq_false q,decide_eq_true omg];rfl
  rw [e6];generalize qb3 p n (qa0 p.code n).b=TB;generalize qb3 p n (qa0 p.code n).c=TC;generalize qu3 (qa0 p.code n).op=SI;generalize decide ((qa0 p.code n).a<p.regs)=G;generalize decide (qm8 p n (qa0 p.code n).a=0)=G2
  by_cases q:(qa0 p.code n).op≠5∧(qa0 p.code n).op≠6
  · rw [if_pos q,decide_eq_true q]
    by_cases a1:TB=0 <;> by_cases a2:TC=TB <;> by_cases a3:SI=0 <;> by_cases a4:TB=SI <;> cases G <;> cases G2 <;> simp_all
  · rw [if_neg q,decide_eq_false q]
    by_cases a1:TB=0 <;> by_cases a3:SI=0 <;> by_cases a4:TB=SI <;> cases G <;> cases G2 <;> simp_all
end
section
variable {p:PV} {n:Nat} {s:LkV}
theorem qz4 (h:LkI p n s) (hr:0≤p.regs) (hop:(qa0 p.code n).op<29) (ha0:0≤(qa0 p.code n).a) {B:Bool} {K:Int} (e:qc4 p s n (qa0 p.code n)=qm6 { s with bad:=B } (qa0 p.code n).a K)
    (hg:B=false→qg9 p (qb3 p n) (qa0 p.code n)=K∧(K=1∨K=2)) (ht:(qh9 p n (qa0 p.code n) && (decide (qg9 p (qb3 p n) (qa0 p.code n)=1) || decide (qg9 p (qb3 p n) (qa0 p.code n)=2)))=!B) :
    (qc4 p s n (qa0 p.code n)).bad=!okN p n∧((qc4 p s n (qa0 p.code n)).bad=false→LkI p (n+1) (qc4 p s n (qa0 p.code n))):=by
  obtain ⟨g1,g2⟩:=h.gave hr hop ha0 hg;rw [e];refine ⟨?_,g2⟩;rw [g1];unfold okN okR;rw [decide_eq_false (show ¬ 29≤(qa0 p.code n).op by omega),decide_eq_true (show (qa0 p.code n).op≠29 by omega)];generalize decide ((qa0 p.code n).a<p.regs)=G at *;generalize decide (qm8 p n (qa0 p.code n).a=0)=G2 at *;generalize (decide (qg9 p (qb3 p n) (qa0 p.code n)=1) || decide (qg9 p (qb3 p n) (qa0 p.code n)=2))=W at *;generalize qh9 p n (qa0 p.code n)=T at *;clear hg g1 g2 e
  cases B <;> cases G <;> cases G2 <;> cases T <;> cases W <;> simp_all
theorem LkI.same (h:LkI p n s):s={ s with bad:=false }:=by
  have:=h.good
  cases s
  simp_all
theorem vc3 {op:Int} (h:op<5∨20<op):qy9 op=false:=decide_eq_false omg
theorem step_1 (h:LkI p n s) (hr:0≤p.regs) (ha0:0≤(qa0 p.code n).a) (ho:(qa0 p.code n).op=1) :
    (qc4 p s n (qa0 p.code n)).bad=!okN p n∧((qc4 p s n (qa0 p.code n)).bad=false→LkI p (n+1) (qc4 p s n (qa0 p.code n))):=by
  have hs:=vc3 (op:=(qa0 p.code n).op) omg;have hg:qg9 p (qb3 p n) (qa0 p.code n)=1:=by unfold qg9;rw [hs,if_neg smp,if_pos omg,ho]
  refine qz4 h hr omg ha0 (B:=false) (K:=1) ?_ (fun _ => ⟨hg,.inl rfl⟩) ?_
  · unfold qc4;rw [hs,if_neg smp,if_pos ho,← h.same]
  · rw [hg];unfold qh9;rw [hs,if_neg smp,if_neg omg,if_neg omg,if_neg omg,if_neg omg,if_neg omg,if_neg omg]
    rfl
theorem step_2 (h:LkI p n s) (hr:0≤p.regs) (ha0:0≤(qa0 p.code n).a) (ho:(qa0 p.code n).op=2) :
    (qc4 p s n (qa0 p.code n)).bad=!okN p n∧((qc4 p s n (qa0 p.code n)).bad=false→LkI p (n+1) (qc4 p s n (qa0 p.code n))):=by
  have hs:=vc3 (op:=(qa0 p.code n).op) omg;have hg:qg9 p (qb3 p n) (qa0 p.code n)=2:=by unfold qg9;rw [hs,if_neg smp,if_pos omg,ho]
  refine qz4 h hr omg ha0 (B:=!(decide ((qa0 p.code n).k=0) || decide ((qa0 p.code n).k=1))) (K:=2) ?_ (fun _ => ⟨hg,.inr rfl⟩) ?_
  · unfold qc4;rw [hs,if_neg smp,if_neg omg,if_pos ho];unfold qh5;rw [h.good,Bool.false_or]
  · rw [hg];unfold qh9;rw [hs,if_neg smp,if_pos ho];simp
theorem step_3 (h:LkI p n s) (hr:0≤p.regs) (ha0:0≤(qa0 p.code n).a) (ho:(qa0 p.code n).op=3) :
    (qc4 p s n (qa0 p.code n)).bad=!okN p n∧((qc4 p s n (qa0 p.code n)).bad=false→LkI p (n+1) (qc4 p s n (qa0 p.code n))):=by
  have hs:=vc3 (op:=(qa0 p.code n).op) omg;have hg:qg9 p (qb3 p n) (qa0 p.code n)=qb3 p n (qa0 p.code n).b:=by unfold qg9;rw [hs,if_neg smp,if_neg omg,if_pos ho]
  have h12:qb3 p n (qa0 p.code n).b=0∨qb3 p n (qa0 p.code n).b=1∨qb3 p n (qa0 p.code n).b=2:=by
    unfold qb3;split
    · exact .inl rfl
    · exact h.kin _
  refine qz4 h hr omg ha0 (B:=decide (qb3 p n (qa0 p.code n).b=0)) (K:=qb3 p n (qa0 p.code n).b) ?_ (fun e => ⟨hg,by have:=of_decide_eq_false e;omega⟩) ?_
  · unfold qc4;rw [hs,if_neg smp,if_neg omg,if_neg omg,if_pos ho];simp only [ql6,h.tk hr,h.good,Bool.false_or]
  · rw [hg];unfold qh9;rw [hs,if_neg smp,if_neg omg,if_pos ho];generalize qb3 p n (qa0 p.code n).b=TB at *;rcases h12 with q | q | q <;> subst q <;> rfl
theorem step_27 (h:LkI p n s) (hr:0≤p.regs) (ha0:0≤(qa0 p.code n).a) (ho:(qa0 p.code n).op=27) :
    (qc4 p s n (qa0 p.code n)).bad=!okN p n∧((qc4 p s n (qa0 p.code n)).bad=false→LkI p (n+1) (qc4 p s n (qa0 p.code n))):=by
  have hs:=vc3 (op:=(qa0 p.code n).op) omg;have hg:qg9 p (qb3 p n) (qa0 p.code n)=qb3 p n (qa0 p.code n).c:=by unfold qg9;rw [hs,if_neg smp,if_neg omg,if_neg omg,if_pos ho]
  have h12:qb3 p n (qa0 p.code n).c=0∨qb3 p n (qa0 p.code n).c=1∨qb3 p n (qa0 p.code n).c=2:=by
    unfold qb3;split
    · exact .inl rfl
    · exact h.kin _
  refine qz4 h hr omg ha0 (B:=decide (qb3 p n (qa0 p.code n).b=0) || !decide (qb3 p n (qa0 p.code n).b=2) || decide (qb3 p n (qa0 p.code n).c=0) || decide (qb3 p n (qa0 p.code n).k=0) || !decide (qb3 p n (qa0 p.code n).k=qb3 p n (qa0 p.code n).c)) (K:=qb3 p n (qa0 p.code n).c) ?_ (fun e => ⟨hg,by
    simp only [Bool.or_eq_false_iff,decide_eq_false_iff_not] at e;omega⟩) ?_
  · unfold qc4;rw [hs,if_neg smp,if_neg omg,if_neg omg,if_neg omg,if_pos ho];simp only [ql6,qh5,h.tk hr,h.good,Bool.false_or]
  · rw [hg];unfold qh9;rw [hs,if_neg smp,if_neg omg,if_neg omg,if_pos ho];generalize qb3 p n (qa0 p.code n).b=TB at *;generalize qb3 p n (qa0 p.code n).c=TC at *;generalize qb3 p n (qa0 p.code n).k=TK at *;clear hg
    by_cases a1:TB=2
    · subst a1
      by_cases a2:TK=TC
      · subst a2;rcases h12 with q | q | q <;> subst q <;> rfl
      · rcases h12 with q | q | q <;> subst q <;> simp [a2]
    · simp [a1]
end
theorem valueB_12 {t n:Int} (h:qy7 t n=true):t=1∨t=2:=by
  unfold qy7 at h;rw [Bool.or_eq_true,beq_iff_eq,Bool.and_eq_true,beq_iff_eq] at h;omega
section
variable {p:PV} {n:Nat} {s:LkV}
theorem step_21 (hm:mayB p=true) (h:LkI p n s) (ha0:0≤(qa0 p.code n).a) (ho:(qa0 p.code n).op=21) :
    (qc4 p s n (qa0 p.code n)).bad=!okN p n∧((qc4 p s n (qa0 p.code n)).bad=false→LkI p (n+1) (qc4 p s n (qa0 p.code n))):=by
  obtain ⟨_,_,hr,_,_,_,hcl,_⟩:=qd6.1 hm;have hs:=vc3 (op:=(qa0 p.code n).op) omg;have htk:qh9 p n (qa0 p.code n)=true:=by
    unfold qh9;rw [hs,if_neg smp,if_neg omg,if_neg omg,if_neg omg,if_neg omg,if_neg omg,if_neg omg]
  by_cases hk:(qa0 p.code n).k<0∨(p.cells.length:Int)≤(qa0 p.code n).k
  · have hg:qg9 p (qb3 p n) (qa0 p.code n)=0:=by unfold qg9;rw [hs,if_neg smp,if_neg omg,if_neg omg,if_neg omg,if_neg omg,if_neg omg]
    refine qz4 h hr omg ha0 (B:=true) (K:=0) ?_ (fun e => by cases e) ?_
    · unfold qc4;rw [hs,if_neg smp,if_neg omg,if_neg omg,if_neg omg,if_neg omg,if_pos ho];simp only [vj0,h.good,Bool.false_or,if_pos hk,decide_eq_true hk]
    · rw [hg,htk];rfl
  · have hg:qg9 p (qb3 p n) (qa0 p.code n)=(qh4 p.cells (qa0 p.code n).k.toNat).1:=by unfold qg9;rw [hs,if_neg smp,if_neg omg,if_neg omg,if_neg omg,if_pos ⟨ho,omg,omg⟩]
    have h12:=valueB_12 (hcl (qa0 p.code n).k.toNat omg);refine qz4 h hr omg ha0 (B:=false) (K:=(qh4 p.cells (qa0 p.code n).k.toNat).1) ?_ (fun e => ⟨hg,h12⟩) ?_
    · unfold qc4;rw [hs,if_neg smp,if_neg omg,if_neg omg,if_neg omg,if_neg omg,if_pos ho];simp only [vj0,h.good,Bool.false_or,if_neg hk,decide_eq_false hk]
    · rw [hg,htk];rcases h12 with q | q <;> rw [q] <;> rfl
theorem step_28 (hm:mayB p=true) (h:LkI p n s) (ha0:0≤(qa0 p.code n).a) (ho:(qa0 p.code n).op=28) :
    (qc4 p s n (qa0 p.code n)).bad=!okN p n∧((qc4 p s n (qa0 p.code n)).bad=false→LkI p (n+1) (qc4 p s n (qa0 p.code n))):=by
  obtain ⟨hin,_,hr,_,_,_,_,_⟩:=qd6.1 hm;have hs:=vc3 (op:=(qa0 p.code n).op) omg;have htk:qh9 p n (qa0 p.code n)=true:=by
    unfold qh9;rw [hs,if_neg smp,if_neg omg,if_neg omg,if_neg omg,if_neg omg,if_neg omg,if_neg omg]
  by_cases hk:(qa0 p.code n).k<0∨(p.ins.length:Int)≤(qa0 p.code n).k
  · have hg:qg9 p (qb3 p n) (qa0 p.code n)=0:=by unfold qg9;rw [hs,if_neg smp,if_neg omg,if_neg omg,if_neg omg,if_neg omg,if_neg omg]
    refine qz4 h hr omg ha0 (B:=true) (K:=0) ?_ (fun e => by cases e) ?_
    · unfold qc4;rw [hs,if_neg smp,if_neg omg,if_neg omg,if_neg omg,if_neg omg,if_neg omg,if_pos ho];simp only [vd3,h.good,Bool.false_or,if_pos hk,decide_eq_true hk]
    · rw [hg,htk];rfl
  · have hg:qg9 p (qb3 p n) (qa0 p.code n)=kAt p.ins (qa0 p.code n).k:=by unfold qg9;rw [hs,if_neg smp,if_neg omg,if_neg omg,if_neg omg,if_neg omg,if_pos ⟨ho,omg,omg⟩]
    have h12:kAt p.ins (qa0 p.code n).k=1∨kAt p.ins (qa0 p.code n).k=2:=by
      have:=(qe7.1 hin).1 (qa0 p.code n).k.toNat omg;unfold kAt;rw [if_neg omg];exact this
    refine qz4 h hr omg ha0 (B:=false) (K:=kAt p.ins (qa0 p.code n).k) ?_ (fun e => ⟨hg,h12⟩) ?_
    · unfold qc4;rw [hs,if_neg smp,if_neg omg,if_neg omg,if_neg omg,if_neg omg,if_neg omg,if_pos ho];simp only [vd3,h.good,Bool.false_or,if_neg hk,decide_eq_false hk]
    · rw [hg,htk];rcases h12 with q | q <;> rw [q] <;> rfl
theorem step_32 (hm:mayB p=true) (h:LkI p n s) (ho:(qa0 p.code n).op=32) :
    (qc4 p s n (qa0 p.code n)).bad=!okN p n∧((qc4 p s n (qa0 p.code n)).bad=false→LkI p (n+1) (qc4 p s n (qa0 p.code n))):=by
  obtain ⟨_,_,hr,_,_,_,hcl,_⟩:=qd6.1 hm;have hs:=vc3 (op:=(qa0 p.code n).op) omg;have hok:okN p n=qh9 p n (qa0 p.code n):=by
    unfold okN okR;rw [decide_eq_true (show 29≤(qa0 p.code n).op by omega),decide_eq_true (show (qa0 p.code n).op≠29 by omega)];simp
  have htk:qh9 p n (qa0 p.code n)=(decide (0≤(qa0 p.code n).k) && (decide ((qa0 p.code n).k<(p.cells.length:Int)) && decide (qb3 p n (qa0 p.code n).a=(qh4 p.cells (qa0 p.code n).k.toNat).1))):=by
    unfold qh9;rw [hs,if_neg smp,if_neg omg,if_neg omg,if_neg omg,if_neg omg,if_pos ho]
  rw [hok,htk];have e:qc4 p s n (qa0 p.code n)={ s with bad:=decide (qb3 p n (qa0 p.code n).a=0) || decide ((qa0 p.code n).k<0∨(p.cells.length:Int)≤(qa0 p.code n).k) || !decide (qb3 p n (qa0 p.code n).a=(if (qa0 p.code n).k<0∨(p.cells.length:Int)≤(qa0 p.code n).k then 0 else (qh4 p.cells (qa0 p.code n).k.toNat).1)) }:=by
    unfold qc4;rw [hs,if_neg smp,if_neg omg,if_neg omg,if_neg omg,if_neg omg,if_neg omg,if_neg omg,if_neg omg,if_pos ho];simp only [ql6,vj0,qh5,h.tk hr,h.good,Bool.false_or]
  rw [e]
  by_cases hk:(qa0 p.code n).k<0∨(p.cells.length:Int)≤(qa0 p.code n).k
  · refine ⟨?_,fun q => by simp [hk] at q⟩;simp only [decide_eq_true hk];rcases hk with q | q
    · rw [decide_eq_false (show ¬ 0≤(qa0 p.code n).k by omega)];simp
    · rw [decide_eq_false (show ¬ (qa0 p.code n).k<(p.cells.length:Int) by omega)];simp
  · have h12:=valueB_12 (hcl (qa0 p.code n).k.toNat omg);simp only [if_neg hk,decide_eq_false hk,decide_eq_true (show 0≤(qa0 p.code n).k by omega),decide_eq_true (show (qa0 p.code n).k<(p.cells.length:Int) by omega)];generalize (qh4 p.cells (qa0 p.code n).k.toNat).1=c at *;generalize qb3 p n (qa0 p.code n).a=TA at *
    by_cases a1:TA=c
    · subst a1;have hne:¬ TA=0:=omg;simp only [decide_eq_false hne];refine ⟨by simp,fun _ => ?_⟩;have hx:=h.none_ ho;rw [h.same] at hx;simpa using hx
    · simp [a1]
theorem step_30 (hm:mayB p=true) (h:LkI p n s) (ho:(qa0 p.code n).op=30∨(qa0 p.code n).op=31) :
    (qc4 p s n (qa0 p.code n)).bad=!okN p n∧((qc4 p s n (qa0 p.code n)).bad=false→LkI p (n+1) (qc4 p s n (qa0 p.code n))):=by
  obtain ⟨_,_,hr,_,_,_,_,_⟩:=qd6.1 hm;have hs:=vc3 (op:=(qa0 p.code n).op) omg;have hok:okN p n=qh9 p n (qa0 p.code n):=by
    unfold okN okR;rw [decide_eq_true (show 29≤(qa0 p.code n).op by omega),decide_eq_true (show (qa0 p.code n).op≠29 by omega)];simp
  have htk:qh9 p n (qa0 p.code n)=(decide (0≤(qa0 p.code n).k) && (decide ((qa0 p.code n).k≤(p.code.length:Int) - 1 - (n:Int)) && decide (qb3 p n (qa0 p.code n).a=2))):=by
    unfold qh9;rw [hs,if_neg smp,if_neg omg,if_neg omg,if_neg omg,if_neg omg,if_neg omg,if_pos ho]
  rw [hok,htk];have e:qc4 p s n (qa0 p.code n)={ s with bad:=decide (qb3 p n (qa0 p.code n).a=0) || !(decide (qb3 p n (qa0 p.code n).a=2) && (decide (0≤(qa0 p.code n).k) && decide ((qa0 p.code n).k≤(p.code.length:Int) - 1 - (n:Int)))),past:=max s.past ((n:Int)+1+min (qa0 p.code n).k (p.code.length:Int)) }:=by
    unfold qc4;rw [hs,if_neg smp,if_neg omg,if_neg omg,if_neg omg,if_neg omg,if_neg omg,if_neg omg,if_neg omg,if_neg omg];simp only [ql6,qh5,h.tk hr,h.good,Bool.false_or]
  rw [e]
  by_cases h0:0≤(qa0 p.code n).k
  · by_cases h1:(qa0 p.code n).k≤(p.code.length:Int) - 1 - (n:Int)
    · have hx:=h.skip_ ho h0 h1;simp only [decide_eq_true h0,decide_eq_true h1];generalize qb3 p n (qa0 p.code n).a=TA at *
      by_cases a1:TA=2
      · subst a1;refine ⟨by simp,fun _ => ?_⟩;have hb:=h.good
        cases s
        simp only at hb hx ⊢;subst hb;simpa using hx
      · simp [a1]
    · simp [h1]
  · simp [h0]
end
section
variable {p:PV} {n:Nat} {s:LkV}
theorem step_29 (hm:mayB p=true) (h:LkI p n s) (ho:(qa0 p.code n).op=29) :
    (qc4 p s n (qa0 p.code n)).bad=!okN p n∧((qc4 p s n (qa0 p.code n)).bad=false→LkI p (n+1) (qc4 p s n (qa0 p.code n))):=by
  obtain ⟨_,hout,hr,_,_,_,_,_⟩:=qd6.1 hm;have hs:=vc3 (op:=(qa0 p.code n).op) omg;have hsk:skipR p n=decide ((n:Int)<s.past):=by
    have:skipR p n=skipN p n n:=rfl;rw [this,Bool.eq_iff_iff,h.past n,decide_eq_true_eq]
  have hok:okN p n=(qh9 p n (qa0 p.code n) && (!decide ((n:Int)<s.past) && decide (vc1 p n (qa0 p.code n).k.toNat=0))):=by
    unfold okN okR;rw [decide_eq_true (show 29≤(qa0 p.code n).op by omega),decide_eq_false (show ¬ (qa0 p.code n).op≠29 by omega),hsk];simp [Bool.and_assoc]
  have htk:qh9 p n (qa0 p.code n)=(decide (0≤(qa0 p.code n).k) && (decide ((qa0 p.code n).k<(p.outs.length:Int)) && decide (qb3 p n (qa0 p.code n).a=kAt p.outs (qa0 p.code n).k))):=by
    unfold qh9;rw [hs,if_neg smp,if_neg omg,if_neg omg,if_neg omg,if_pos ho]
  rw [hok,htk];have e:qc4 p s n (qa0 p.code n)=(if (decide (qb3 p n (qa0 p.code n).a=0) || decide ((qa0 p.code n).k<0∨(p.outs.length:Int)≤(qa0 p.code n).k) || !decide (qb3 p n (qa0 p.code n).a=(if (qa0 p.code n).k<0∨(p.outs.length:Int)≤(qa0 p.code n).k then 0 else kAt p.outs (qa0 p.code n).k)) || !decide (s.past≤(n:Int)))=true
      then { s with bad:=decide (qb3 p n (qa0 p.code n).a=0) || decide ((qa0 p.code n).k<0∨(p.outs.length:Int)≤(qa0 p.code n).k) || !decide (qb3 p n (qa0 p.code n).a=(if (qa0 p.code n).k<0∨(p.outs.length:Int)≤(qa0 p.code n).k then 0 else kAt p.outs (qa0 p.code n).k)) || !decide (s.past≤(n:Int)) }
      else { s with bad:=(decide (qb3 p n (qa0 p.code n).a=0) || decide ((qa0 p.code n).k<0∨(p.outs.length:Int)≤(qa0 p.code n).k) || !decide (qb3 p n (qa0 p.code n).a=(if (qa0 p.code n).k<0∨(p.outs.length:Int)≤(qa0 p.code n).k then 0 else kAt p.outs (qa0 p.code n).k)) || !decide (s.past≤(n:Int))) || !(!(s.outs.getD (qa0 p.code n).k.toNat false)),outs:=s.outs.set (qa0 p.code n).k.toNat true }):=by
    unfold qc4;rw [hs,if_neg smp,if_neg omg,if_neg omg,if_neg omg,if_neg omg,if_neg omg,if_neg omg,if_pos ho];simp only [ql6,vd3,qh5,h.tk hr,h.good,Bool.false_or]
  rw [e]
  by_cases hk:(qa0 p.code n).k<0∨(p.outs.length:Int)≤(qa0 p.code n).k
  · rw [if_pos (by simp [hk])];refine ⟨?_,fun q => by simp [hk] at q⟩;simp only [decide_eq_true hk];rcases hk with q | q
    · rw [decide_eq_false (show ¬ 0≤(qa0 p.code n).k by omega)];simp
    · rw [decide_eq_false (show ¬ (qa0 p.code n).k<(p.outs.length:Int) by omega)];simp
  · have h12:kAt p.outs (qa0 p.code n).k=1∨kAt p.outs (qa0 p.code n).k=2:=by
      have:=(qe7.1 hout).1 (qa0 p.code n).k.toNat omg;unfold kAt;rw [if_neg omg];exact this
    have hx:=h.out_ ho omg omg;have hoo:=h.outs (qa0 p.code n).k.toNat omg;simp only [if_neg hk,decide_eq_false hk,decide_eq_true (show 0≤(qa0 p.code n).k by omega),decide_eq_true (show (qa0 p.code n).k<(p.outs.length:Int) by omega)];generalize kAt p.outs (qa0 p.code n).k=c at *;generalize qb3 p n (qa0 p.code n).a=TA at *
    by_cases a1:TA=c
    · subst a1;have hne:¬ TA=0:=omg
      by_cases a2:s.past≤(n:Int)
      · simp only [decide_eq_false hne,decide_eq_true a2,decide_eq_false (show ¬ (n:Int)<s.past by omega)];rw [if_neg smp]
        by_cases a3:vc1 p n (qa0 p.code n).k.toNat=0
        · have a4:s.outs.getD (qa0 p.code n).k.toNat false=false:=by
            cases q:s.outs.getD (qa0 p.code n).k.toNat false with
            | false => rfl
            | true => exact absurd a3 (hoo.1 q)
          rw [a4,decide_eq_true a3];refine ⟨by simp,fun _ => ?_⟩;have hb:=h.good
          cases s
          simp only at hb hx ⊢;subst hb;simpa using hx
        · have a4:s.outs.getD (qa0 p.code n).k.toNat false=true:=hoo.2 a3;rw [a4,decide_eq_false a3];simp
      · simp only [decide_eq_false a2,decide_eq_true (show (n:Int)<s.past by omega)];rw [if_pos smp];simp
    · rw [if_pos (by simp [a1])];simp [a1]
theorem lk_step (hm:mayB p=true) (h:LkI p n s) (hn:n<p.code.length) :
    (qc4 p s n (qa0 p.code n)).bad=!okN p n∧((qc4 p s n (qa0 p.code n)).bad=false→LkI p (n+1) (qc4 p s n (qa0 p.code n))):=by
  obtain ⟨_,_,hr,_,_,_,_,hco⟩:=qd6.1 hm;have hok:InsOk (qa0 p.code n):=of_decide_eq_true (hco n hn);have hc:=hok.1;rcases vi4 (qa0 p.code n).op with (q | q | q | q) | (q | q | q) | q | q | q
  · exact step_1 h hr hok.2.1 q
  · exact step_2 h hr hok.2.1 q
  · exact step_21 hm h hok.2.1 q
  · have:(qa0 p.code n).op=28∨(qa0 p.code n).op=29∨((qa0 p.code n).op=30∨(qa0 p.code n).op=31)∨(qa0 p.code n).op=32:=omg;rcases this with r | r | r | r
    · exact step_28 hm h hok.2.1 r
    · exact step_29 hm h r
    · exact step_30 hm h r
    · exact step_32 hm h r
  · exact step_3 h hr hok.2.1 q
  · exact vj4 h hr hok omg
  · exact vj4 h hr hok omg
  · exact vj4 h hr hok omg
  · exact step_27 h hr hok.2.1 q
  · exact absurd (cls_0 q) hc
theorem lk_all (hm:mayB p=true):∀ n,n≤p.code.length→((qf2 p n).bad=!(List.range n).all (okN p))∧((qf2 p n).bad=false→LkI p n (qf2 p n)):=by
  obtain ⟨_,_,hr,_⟩:=qd6.1 hm;intro n
  induction n with
  | zero => intro _;exact ⟨rfl,fun _ => lk_start p hr⟩
  | succ n ih =>
    intro hn;obtain ⟨i1,i2⟩:=ih omg;rw [List.range_succ,List.all_append]
    show (if (qf2 p n).bad then qf2 p n else qc4 p (qf2 p n) n (qa0 p.code n)).bad=_∧((if (qf2 p n).bad then qf2 p n else qc4 p (qf2 p n) n (qa0 p.code n)).bad=false→LkI p (n+1) (if (qf2 p n).bad then qf2 p n else qc4 p (qf2 p n) n (qa0 p.code n)))
    cases hb:(qf2 p n).bad with
    | true =>
      rw [hb] at i1;simp only [if_true];rw [hb];have:(List.range n).all (okN p)=false:=by cases q:(List.range n).all (okN p) with | false => rfl | true => rw [q] at i1;cases i1
      rw [this];exact ⟨rfl,fun e => by cases e⟩
    | false =>
      have hi:=i2 hb;rw [hb] at i1;have:(List.range n).all (okN p)=true:=by cases q:(List.range n).all (okN p) with | true => rfl | false => rw [q] at i1;cases i1
      rw [this];simp only [Bool.false_eq_true,if_false];obtain ⟨s1,s2⟩:=lk_step hm hi omg;exact ⟨by rw [s1];simp,s2⟩
end
theorem outsR_mono (p:PV) (o:Nat) {n m:Nat} (h:n≤m):vc1 p n o≤vc1 p m o:=by
  induction m with
  | zero => rw [show n=0 by omega];exact Nat.le_refl _
  | succ m ih =>
    by_cases q:n=m+1
    · rw [q];exact Nat.le_refl _
    · rw [qp5];have:=ih omg;omega
theorem outsR_one (p:PV):∀ n,(∀ i,i<n→okN p i=true)→∀ o,vc1 p n o≤1:=by
  intro n
  induction n with
  | zero => intro _ o;simp [vc1]
  | succ n ih =>
    intro h o;have h1:=ih (fun i hi => h i omg) o;rw [qp5]
    by_cases q:(qa0 p.code n).op=29∧(qa0 p.code n).k=(o:Int)
    · have hn:=h n omg;unfold okN at hn;rw [Bool.and_eq_true,Bool.or_eq_true,decide_eq_true_eq,decide_eq_true_eq] at hn;have:vc1 p n o=0:=by
        rcases hn.2 with e | e
        · exact absurd q.1 e
        · rwa [q.2,Int.toNat_natCast] at e
      rw [if_pos q,this];exact Nat.le_refl _
    · rw [if_neg q];exact h1
theorem verify_is (p:PV):qf0 p=rightR p:=by
  unfold qf0 rightR
  cases hm:mayB p with
  | false => rfl
  | true =>
    obtain ⟨a1,a2⟩:=lk_all hm p.code.length nlr;rw [Bool.true_and,Bool.true_and,Bool.eq_iff_iff,Bool.and_eq_true,Bool.and_eq_true,Bool.not_eq_true'];have outsAll:(qf2 p p.code.length).bad=false→((qf2 p p.code.length).outs.all id=true ↔ ∀ o,o<p.outs.length→vc1 p p.code.length o≠0):=fun hb => by
      have hi:=a2 hb;rw [List.all_eq_true];constructor
      · intro h o ho;refine (hi.outs o ho).1 ?_;have hl:o<(qf2 p p.code.length).outs.length:=by rw [hi.olen];exact ho
        rw [List.getD_eq_getElem?_getD,List.getElem?_eq_getElem hl];exact h _ (List.getElem_mem hl)
      · intro h x hx;obtain ⟨o,ho,e⟩:=List.getElem_of_mem hx;have h2:=(hi.outs o (by rw [← hi.olen];exact ho)).2 (h o (by rw [← hi.olen];exact ho));rw [List.getD_eq_getElem?_getD,List.getElem?_eq_getElem ho] at h2;rw [← e];exact h2
    constructor
    · rintro ⟨hb,ho⟩;rw [hb] at a1;have hall:(List.range p.code.length).all (okN p)=true:=by cases q:(List.range p.code.length).all (okN p) with | true => rfl | false => rw [q] at a1;cases a1
      rw [List.all_eq_true] at hall;have hk:∀ i,i<p.code.length→okN p i=true:=fun i hi => hall i (List.mem_range.2 hi)
      refine ⟨List.all_eq_true.2 (fun i hi => ?_),List.all_eq_true.2 (fun o hx => ?_)⟩
      · have:=hk i (List.mem_range.1 hi);unfold okN at this;rw [Bool.and_eq_true] at this;exact this.1
      · have h1:=outsR_one p p.code.length hk o;have h2:=(outsAll hb).1 ho o (List.mem_range.1 hx);exact decide_eq_true omg
    · rintro ⟨h1,h2⟩;rw [List.all_eq_true] at h1 h2;have hk:(List.range p.code.length).all (okN p)=true:=List.all_eq_true.2 (fun i hi => by
        have hi':=List.mem_range.1 hi;have hr:=h1 i hi;unfold okN;rw [hr,Bool.true_and,Bool.or_eq_true,decide_eq_true_eq,decide_eq_true_eq]
        by_cases q:(qa0 p.code i).op=29
        · right
          have ht:qh9 p i (qa0 p.code i)=true:=by
            unfold okR at hr;rw [Bool.and_eq_true] at hr;exact hr.1
          have hs:=vc3 (op:=(qa0 p.code i).op) omg;unfold qh9 at ht;rw [hs,if_neg smp,if_neg omg,if_neg omg,if_neg omg,if_pos q,Bool.and_eq_true,Bool.and_eq_true,decide_eq_true_eq,decide_eq_true_eq] at ht;have e1:=of_decide_eq_true (h2 (qa0 p.code i).k.toNat (List.mem_range.2 omg));have e2:=outsR_mono p (qa0 p.code i).k.toNat (show i+1≤p.code.length by omega);rw [qp5,if_pos ⟨q,omg⟩] at e2;omega
        · exact .inl q)
      rw [hk] at a1;have hb:(qf2 p p.code.length).bad=false:=a1;refine ⟨hb,(outsAll hb).2 (fun o ho => ?_)⟩;have:=of_decide_eq_true (h2 o (List.mem_range.2 ho));omega
end Go.Proofs.YtmeebofhlilcmaaGreat
