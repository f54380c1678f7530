/- Parts: PlainFeed, PlainFeedB, RefArith, PlainStat, PlainDiv, CodeG, CodeH. -/
import Derived.Test.YtmeebofhlilcmaaGreatPr02
import Derived.Test.YtmeebofhlilcmaaGreatPr22
import Derived.Test.YtmeebofhlilcmaaGreatPr03
import Derived.Test.YtmeebofhlilcmaaGreatPr05
import Derived.Test.YtmeebofhlilcmaaGreatPr08
import Derived.Test.YtmeebofhlilcmaaGreatPr04
import Derived.Test.YtmeebofhlilcmaaGreatPr06
import Derived.Lib.AppendZerosOnto
import Derived.Lib.AppendZeros
set_option linter.unusedVariables false
set_option linter.unusedSimpArgs false
set_option maxRecDepth 100000
set_option maxHeartbeats 40000000
namespace Go.Proofs.YtmeebofhlilcmaaGreat
open Go.RowKit
def ql5 (D:qa1) (f m:Nat) (kind:Int) (next:Nat) (ts:List Int) (n:Int):qa1 × List Int × Int :=
  if (qv1 D f m kind next n).2.2≠0 then ((qv1 D f m kind next n).1,[],(qv1 D f m kind next n).2.2)
  else if (qr2 ts (qv1 D f m kind next n).2.1).2≠0 then ((qv1 D f m kind next n).1,[],41)
  else ((qv1 D f m kind next n).1,(qr2 ts (qv1 D f m kind next n).2.1).1,0)
def qm1 (D:qa1) (f m:Nat) (kind:Int) (next:Nat) (ts:List Int):Nat→qa1 × Int
  | 0 => (D,0)
  | k+1 => if (qm1 D f m kind next ts k).2≠0 then qm1 D f m kind next ts k else ((ql5 (qm1 D f m kind next ts k).1 f m kind next ts (k:Int)).1,(ql5 (qm1 D f m kind next ts k).1 f m kind next ts (k:Int)).2.2)
def qc2 (D:qa1) (f m:Nat) (kind:Int) (ts:List Int):qa1 × Nat × Int :=
  if qg8 ts=false then (D,0,2)
  else if (qb7 D f m kind).2.2≠0 then ((qb7 D f m kind).1,0,(qb7 D f m kind).2.2)
  else if (qm1 (qb7 D f m kind).1 f m kind (qb7 D f m kind).2.1 ts (qb7 D f m kind).2.1).2≠0 then ((qm1 (qb7 D f m kind).1 f m kind (qb7 D f m kind).2.1 ts (qb7 D f m kind).2.1).1,0,(qm1 (qb7 D f m kind).1 f m kind (qb7 D f m kind).2.1 ts (qb7 D f m kind).2.1).2)
  else ((qm1 (qb7 D f m kind).1 f m kind (qb7 D f m kind).2.1 ts (qb7 D f m kind).2.1).1,(qb7 D f m kind).2.1,0)
def qh0 (D:qa1) (f m:Nat) (kind:Int) (next:Nat) (ts l:List Int):qa1 × Nat × Int × Int :=
  if qh6 ts l=false then (D,next,0,41) else qh8 D f m kind next (rowB ts l ts.length)
def qn2 (D:qa1) (f m:Nat) (kind:Int) (next:Nat) (ts l:List Int):qa1 × Nat × Int × Int :=
  if (qh0 D f m kind next ts l).2.2.2≠0 then ((qh0 D f m kind next ts l).1,(qh0 D f m kind next ts l).2.1,0,(qh0 D f m kind next ts l).2.2.2)
  else if (qb0 (qh0 D f m kind next ts l).1).2≠0 then ((qb0 (qh0 D f m kind next ts l).1).1,(qh0 D f m kind next ts l).2.1,0,(qb0 (qh0 D f m kind next ts l).1).2)
  else ((qb0 (qh0 D f m kind next ts l).1).1,(qh0 D f m kind next ts l).2.1,(qh0 D f m kind next ts l).2.2.1,0)
def qt1 (D:qa1) (f m:Nat) (kind:Int) (next:Nat) (ts:List Int) (n:Int) (l:List Int):qa1 × Nat × Bool × Int :=
  if n<0∨(next:Int)<n then (D,next,false,2)
  else if qh6 ts l=false then (D,next,false,41)
  else if n<(next:Int) then (D,next,false,0)
  else if (qh8 D f m kind next (rowB ts l ts.length)).2.2.2≠0 then ((qh8 D f m kind next (rowB ts l ts.length)).1,(qh8 D f m kind next (rowB ts l ts.length)).2.1,false,(qh8 D f m kind next (rowB ts l ts.length)).2.2.2)
  else ((qh8 D f m kind next (rowB ts l ts.length)).1,(qh8 D f m kind next (rowB ts l ts.length)).2.1,true,0)
def qz3 (l:List Int):Prop:=∀ i,i<l.length→-9223372036854775808≤qa6 l i∧qa6 l i≤9223372036854775807
theorem jGetV_keeps (D:qa1) (f m:Nat) (kind:Int) (next:Nat) (n:Int):∃ o,(qv1 D f m kind next n).1={ D with ops:=o }:=by
  have hr:∃ o,(qb4 D f m n).1={ D with ops:=o }:=by
    unfold qb4
    split
    · exact ⟨D.ops,rfl⟩
    · unfold qt2
      split
      · exact ⟨D.ops,rfl⟩
      · exact ⟨_,rfl⟩
  unfold qv1
  split
  · exact ⟨D.ops,rfl⟩
  · split
    · exact hr
    · split
      · exact hr
      · exact hr
theorem qy1 (D:qa1) (f m:Nat) (kind:Int) (next:Nat) (ts:List Int) (n:Int):∃ o,(ql5 D f m kind next ts n).1={ D with ops:=o }:=by
  have h:=jGetV_keeps D f m kind next n;unfold ql5
  split
  · exact h
  · split
    · exact h
    · exact h
theorem vk9 (D:qa1) (f m:Nat) (kind:Int) (next:Nat) (ts:List Int):∀ k,∃ o,(qm1 D f m kind next ts k).1={ D with ops:=o }:=by
  intro k
  induction k with
  | zero => exact ⟨D.ops,rfl⟩
  | succ k ih =>
    obtain ⟨o,e⟩:=ih;unfold qm1
    split
    · exact ⟨o,e⟩
    · obtain ⟨o2,e2⟩:=qy1 (qm1 D f m kind next ts k).1 f m kind next ts (k:Int);exact ⟨o2,by rw [e2,e]⟩
theorem vo9 {D:qa1} {f m:Nat} {kind:Int} {next:Nat} {ts:List Int} {k n:Nat} (h:(qm1 D f m kind next ts k).2≠0) (hn:k≤n):qm1 D f m kind next ts n=qm1 D f m kind next ts k:=by
  induction n with
  | zero => rw [show k=0 by omega]
  | succ n ih =>
    by_cases q:k=n+1
    · rw [q]
    · have e:=ih omg
      show (if (qm1 D f m kind next ts n).2≠0 then _ else _)=_
      rw [e,if_pos h]
structure ql4 (ts:List Int) (rows:List (List Int)):Prop where
  fits:∀ l ∈ rows,qh6 ts l=true
  ints:∀ l ∈ rows,qz3 l
def qc3 (ts:List Int) (rows:List (List Int)):List (List UInt8):=rows.map (fun l => rowB ts l ts.length)
theorem fits_right {ts l:List Int} (h:qh6 ts l=true):qg8 ts=true:=(qp6.1 h).1
theorem vq3 {ts:List Int} (h:qg8 ts=true) (l:List Int):(rowB ts l ts.length).length≤80:=by
  have h1:=rowB_len10 ts l ts.length;have h2:=(qe7.1 h).2.2;omega
theorem loadsOf_len {ts:List Int} (h:qg8 ts=true) {rows:List (List Int)}:∀ b ∈ qc3 ts rows,b.length≤113:=fun b hb => by
  obtain ⟨l,_,e⟩:=List.mem_map.1 hb;rw [← e];have:=vq3 h l;omega
theorem vd5 {ts:List Int} {rows:List (List Int)} {n:Nat} {l:List Int} (h:rows[n]?=some l):(qc3 ts rows)[n]?=some (rowB ts l ts.length):=by
  unfold qc3;rw [List.getElem?_map,h];rfl
section
variable {D:qa1} {N:Secs} {f m kind:Nat} {ts:List Int} {rows:List (List Int)}
theorem vr7 (hoff:D.off=false) (hnow:∀ s:Nat,s<D.many→qf1 D.now (s:Int)=N s) (hR:ql4 ts rows) (h:Jrn N f m kind (qc3 ts rows)) (hfm:f+m≤D.many) (k1:1≤kind) (k2:kind≤255) (hm:m≤4096) {n:Nat} {l:List Int} (hn:rows[n]?=some l) :
    ql5 D f m (kind:Int) rows.length ts (n:Int)=(qj0 D,l,0):=by
  have hmem:=List.mem_of_getElem? hn;have hg:=h.get hoff hnow hfm k1 k2 hm (vd5 hn);rw [show (qc3 ts rows).length=rows.length by simp [qc3]] at hg;unfold ql5;rw [hg,readR_rowB (hR.fits l hmem) (hR.ints l hmem)];simp
theorem fall_ok (hoff:D.off=false) (hnow:∀ s:Nat,s<D.many→qf1 D.now (s:Int)=N s) (hR:ql4 ts rows) (h:Jrn N f m kind (qc3 ts rows)) (hfm:f+m≤D.many) (k1:1≤kind) (k2:kind≤255) (hm:m≤4096) :
    ∀ k,k≤rows.length→qm1 D f m (kind:Int) rows.length ts k=(rdK D k,0):=by
  intro k
  induction k with
  | zero => intro _;rfl
  | succ k ih =>
    intro hk;have e:=ih omg;obtain ⟨o,ho⟩:=qo8 D k;have hg:=vr7 (D:=rdK D k) (N:=N) (by rw [ho];exact hoff) (fun s hs => by rw [ho] at hs ⊢;exact hnow s hs) hR h (by rw [ho];exact hfm) k1 k2 hm (List.getElem?_eq_getElem (show k<rows.length by omega))
    show (if (qm1 D f m (kind:Int) rows.length ts k).2≠0 then _ else _)=_
    rw [e,hg];simp
    rfl
end
theorem vd6 (ts:List Int) (rows:List (List Int)) (l:List Int):qc3 ts (rows ++ [l])=qc3 ts rows ++ [rowB ts l ts.length]:=by simp [qc3]
theorem qc5 (ts:List Int) (rows:List (List Int)):(qc3 ts rows).length=rows.length:=by simp [qc3]
theorem loadsOf_take (ts:List Int) (rows:List (List Int)) (n:Nat):(qc3 ts rows).take n=qc3 ts (rows.take n):=by simp [qc3,List.map_take]
theorem ql4.app {ts:List Int} {rows:List (List Int)} {l:List Int} (h:ql4 ts rows) (h1:qh6 ts l=true) (h2:qz3 l):ql4 ts (rows ++ [l]) :=
  ⟨fun x hx => by rcases List.mem_append.1 hx with q | q;exact h.fits x q;rw [List.mem_singleton.1 q];exact h1,fun x hx => by rcases List.mem_append.1 hx with q | q;exact h.ints x q;rw [List.mem_singleton.1 q];exact h2⟩
theorem ql4.take_ {ts:List Int} {rows:List (List Int)} (h:ql4 ts rows) (n:Nat):ql4 ts (rows.take n):=⟨fun x hx => h.fits x (List.mem_of_mem_take hx),fun x hx => h.ints x (List.mem_of_mem_take hx)⟩
section
variable {D:qa1} {N:Secs} {P:Says} {f m kind:Nat} {ts l:List Int} {rows:List (List Int)}
theorem Pow.fput (h:Pow D N P) (hfm:f+m≤D.many) (k1:1≤kind) (k2:kind≤255) (hj:Jrn N f m kind (qc3 ts rows)) (hR:ql4 ts rows) (hl:qz3 l) (hw:D.waits.length<1000000)
    (hP:qh6 ts l=true→rows.length<m→qo2 (P (f+rows.length)) (qe2 kind rows.length (rowB ts l ts.length))) :
    (qh0 D f m (kind:Int) rows.length ts l).1.many=D.many ∧
    (((qh0 D f m (kind:Int) rows.length ts l)=(D,rows.length,0,41)∧qh6 ts l=false)∨((qh0 D f m (kind:Int) rows.length ts l)=(D,rows.length,0,52)∧rows.length=m) ∨
    ((qh0 D f m (kind:Int) rows.length ts l).2=(rows.length+1,(rows.length:Int),0)∧Pow (qh0 D f m (kind:Int) rows.length ts l).1 (putN N (f+rows.length) (qe2 kind rows.length (rowB ts l ts.length))) P ∧
      Jrn (putN N (f+rows.length) (qe2 kind rows.length (rowB ts l ts.length))) f m kind (qc3 ts (rows ++ [l]))∧ql4 ts (rows ++ [l])∧(qh0 D f m (kind:Int) rows.length ts l).1.waits.length=D.waits.length+1∧(D.cut=-1→(qh0 D f m (kind:Int) rows.length ts l).1.cut=-1)) ∨
    ((qh0 D f m (kind:Int) rows.length ts l).2=(rows.length,0,50)∧(qh0 D f m (kind:Int) rows.length ts l).1.off=true∧D.cut≠-1∧qh6 ts l=true∧rows.length<m∧Safe (qh0 D f m (kind:Int) rows.length ts l).1 P)):=by
  cases hf:qh6 ts l with
  | false =>
    have:qh0 D f m (kind:Int) rows.length ts l=(D,rows.length,0,41):=by unfold qh0;rw [if_pos hf]
    rw [this];exact ⟨rfl,.inl ⟨rfl,rfl⟩⟩
  | true =>
    have hr:=fits_right hf;have hrl:=vq3 hr l;have e:qh0 D f m (kind:Int) rows.length ts l=qh8 D f m (kind:Int) rows.length (rowB ts l ts.length):=by unfold qh0;rw [if_neg (by rw [hf];simp)]
    have hle:=hj.le;rw [qc5] at hle;rw [e]
    by_cases hm:rows.length=m
    · have:qh8 D f m (kind:Int) rows.length (rowB ts l ts.length)=(D,rows.length,0,52):=by
        unfold qh8;rw [if_neg omg,if_pos omg]
      rw [this];exact ⟨rfl,.inr (.inl ⟨rfl,hm⟩)⟩
    · have hlt:rows.length<m:=omg;obtain ⟨a1,a2,a3⟩:=h.jadd hfm k1 k2 hlt (l:=rowB ts l ts.length) omg hw (hP hf hlt);refine ⟨a1,?_⟩;rcases a3 with ⟨b1,b2,b3⟩ | ⟨b1,b2,b3,b4⟩
      · have hp:=hj.put (by rw [qc5];exact hlt) (l:=rowB ts l ts.length) omg;rw [qc5] at hp;exact .inr (.inr (.inl ⟨b1,b2,by rw [vd6];exact hp,hR.app hf hl,by rw [a2];simp,b3⟩))
      · exact .inr (.inr (.inr ⟨b1,b2,b3,rfl,hlt,b4⟩))
theorem Rest.fadd (h:Rest D N) (hfm:f+m≤D.many) (k1:1≤kind) (k2:kind≤255) (hj:Jrn N f m kind (qc3 ts rows)) (hR:ql4 ts rows) (hl:qz3 l) (hN:∀ s:Nat,s<D.many→P s (N s))
    (hP:qh6 ts l=true→rows.length<m→qo2 (P (f+rows.length)) (qe2 kind rows.length (rowB ts l ts.length))) :
    (qn2 D f m (kind:Int) rows.length ts l).1.many=D.many ∧
    (((qn2 D f m (kind:Int) rows.length ts l)=(D,rows.length,0,41)∧qh6 ts l=false)∨((qn2 D f m (kind:Int) rows.length ts l)=(D,rows.length,0,52)∧rows.length=m) ∨
    ((qn2 D f m (kind:Int) rows.length ts l).2=(rows.length+1,(rows.length:Int),0)∧Rest (qn2 D f m (kind:Int) rows.length ts l).1 (putN N (f+rows.length) (qe2 kind rows.length (rowB ts l ts.length))) ∧
      Jrn (putN N (f+rows.length) (qe2 kind rows.length (rowB ts l ts.length))) f m kind (qc3 ts (rows ++ [l]))∧ql4 ts (rows ++ [l])∧(D.cut=-1→(qn2 D f m (kind:Int) rows.length ts l).1.cut=-1)) ∨
    ((qn2 D f m (kind:Int) rows.length ts l).2.2=(0,50)∧(qn2 D f m (kind:Int) rows.length ts l).1.off=true∧D.cut≠-1∧qh6 ts l=true∧rows.length<m∧Safe (qn2 D f m (kind:Int) rows.length ts l).1 P)):=by
  obtain ⟨a1,a2⟩:=(h.pow hN).fput hfm k1 k2 hj hR hl (by rw [h.waits];simp) hP;have hun:qn2 D f m (kind:Int) rows.length ts l=if (qh0 D f m (kind:Int) rows.length ts l).2.2.2≠0 then ((qh0 D f m (kind:Int) rows.length ts l).1,(qh0 D f m (kind:Int) rows.length ts l).2.1,0,(qh0 D f m (kind:Int) rows.length ts l).2.2.2)
      else if (qb0 (qh0 D f m (kind:Int) rows.length ts l).1).2≠0 then ((qb0 (qh0 D f m (kind:Int) rows.length ts l).1).1,(qh0 D f m (kind:Int) rows.length ts l).2.1,0,(qb0 (qh0 D f m (kind:Int) rows.length ts l).1).2)
      else ((qb0 (qh0 D f m (kind:Int) rows.length ts l).1).1,(qh0 D f m (kind:Int) rows.length ts l).2.1,(qh0 D f m (kind:Int) rows.length ts l).2.2.1,0):=rfl
  generalize qh0 D f m (kind:Int) rows.length ts l=R at *;generalize qn2 D f m (kind:Int) rows.length ts l=S at *;obtain ⟨D1,nx,v,er⟩:=R;simp only at a1 a2 hun;rcases a2 with ⟨q,c1⟩ | ⟨q,c1⟩ | ⟨c1,c2,c3,c4,c5,c6⟩ | ⟨c1,c2,c3,c4,c5,c6⟩
  · injection q with q1 q;injection q with q2 q;injection q with q3 q4;subst q1 q2 q3 q4;rw [if_pos smp] at hun;rw [hun];exact ⟨rfl,.inl ⟨rfl,c1⟩⟩
  · injection q with q1 q;injection q with q2 q;injection q with q3 q4;subst q1 q2 q3 q4;rw [if_pos smp] at hun;rw [hun];exact ⟨rfl,.inr (.inl ⟨rfl,c1⟩)⟩
  · injection c1 with q1 c1;injection c1 with q2 q3;subst q1 q2 q3;rw [if_neg smp] at hun;obtain ⟨d1,d2⟩:=c2.flush;rcases d2 with ⟨e1,e2,e3⟩ | ⟨e1,e2,e3,e4⟩
    · rw [if_neg (by rw [e1];simp)] at hun;rw [hun];exact ⟨d1.trans a1,.inr (.inr (.inl ⟨rfl,e2,c3,c4,fun q => e3 (c6 q)⟩))⟩
    · rw [if_pos (by rw [e1];simp)] at hun;rw [hun];have hlt:rows.length<m:=by
        have:=c3.le;rw [qc5,List.length_append,List.length_singleton] at this;omega
      exact ⟨d1.trans a1,.inr (.inr (.inr ⟨by rw [e1],e2,fun q => e3 (c6 q),c4.fits l smp,hlt,e4⟩))⟩
  · injection c1 with q1 c1;injection c1 with q2 q3;subst q1 q2 q3;rw [if_pos smp] at hun;rw [hun];exact ⟨a1,.inr (.inr (.inr ⟨rfl,c2,c3,c4,c5,c6⟩))⟩
theorem Rest.fopen {k:Nat} (h:Rest D N) (hr:qg8 ts=true) (hfm:f+m≤D.many) (k1:1≤kind) (k2:kind≤255) (hm:m≤4096) (hR:ql4 ts rows) (hk:k≤rows.length) (hle:rows.length≤m)
    (hj:∀ n,n<m→SecJ kind k (qc3 ts rows) n (N (f+n))) (hN:∀ s:Nat,s<D.many→P s (N s)) (hz:∀ n,k≤n→n<m→qo2 (P (f+n)) qa3) :
    (qc2 D f m (kind:Int) ts).1.many=D.many ∧
    ((∃ nx,k≤nx∧nx≤rows.length∧(qc2 D f m (kind:Int) ts).2=(nx,0)∧Rest (qc2 D f m (kind:Int) ts).1 (qs8 N f nx m)∧Jrn (qs8 N f nx m) f m kind (qc3 ts (rows.take nx))∧(D.cut=-1→(qc2 D f m (kind:Int) ts).1.cut=-1)) ∨
    ((qc2 D f m (kind:Int) ts).2=(0,50)∧(qc2 D f m (kind:Int) ts).1.off=true∧D.cut≠-1∧Safe (qc2 D f m (kind:Int) ts).1 P)):=by
  obtain ⟨nx,f1,f2,f3,f4,f5,f6⟩:=found (N:=N) (f:=f) (all:=qc3 ts rows) (k:=k) (m:=m) (kind:=kind) (loadsOf_len hr) (by rw [qc5];exact hk) (by rw [qc5];exact hle) k1 k2 hm hj;rw [qc5] at f2;rw [loadsOf_take] at f6;obtain ⟨a1,a2⟩:=h.jopen (kind:=(kind:Int)) omg omg hfm hN f3 f4 f5 (fun n q1 q2 => hz n omg q2);have hun:qc2 D f m (kind:Int) ts=if qg8 ts=false then (D,0,2)
    else if (qb7 D f m (kind:Int)).2.2≠0 then ((qb7 D f m (kind:Int)).1,0,(qb7 D f m (kind:Int)).2.2)
    else if (qm1 (qb7 D f m (kind:Int)).1 f m (kind:Int) (qb7 D f m (kind:Int)).2.1 ts (qb7 D f m (kind:Int)).2.1).2≠0 then ((qm1 (qb7 D f m (kind:Int)).1 f m (kind:Int) (qb7 D f m (kind:Int)).2.1 ts (qb7 D f m (kind:Int)).2.1).1,0,(qm1 (qb7 D f m (kind:Int)).1 f m (kind:Int) (qb7 D f m (kind:Int)).2.1 ts (qb7 D f m (kind:Int)).2.1).2)
    else ((qm1 (qb7 D f m (kind:Int)).1 f m (kind:Int) (qb7 D f m (kind:Int)).2.1 ts (qb7 D f m (kind:Int)).2.1).1,(qb7 D f m (kind:Int)).2.1,0):=rfl
  generalize qb7 D f m (kind:Int)=R at *;generalize qc2 D f m (kind:Int) ts=S at *;obtain ⟨D1,n1,er⟩:=R;simp only at a1 a2 hun;rw [if_neg (by rw [hr];simp)] at hun;rcases a2 with ⟨c1,c2,c3⟩ | ⟨c1,c2,c3,c4⟩
  · injection c1 with q1 q2;subst q1 q2;rw [if_neg smp] at hun;have hlen:(rows.take n1).length=n1:=by rw [List.length_take];omega
    have hall:=fall_ok (D:=D1) (N:=qs8 N f n1 m) (f:=f) (m:=m) (kind:=kind) (ts:=ts) (rows:=rows.take n1) c2.fit.off c2.now (hR.take_ n1) f6 omg k1 k2 hm n1 omg;rw [hlen] at hall;obtain ⟨o,ho⟩:=qo8 D1 n1;rw [hall,if_neg smp] at hun;simp only at hun;rw [hun];refine ⟨by rw [ho];exact a1,.inl ⟨n1,f1,f2,rfl,?_,f6,fun q => ?_⟩⟩
    · rw [ho];exact c2.ops o
    · rw [ho];exact c3 q
  · injection c1 with q1 q2;subst q1 q2;rw [if_pos smp] at hun;rw [hun];exact ⟨a1,.inr ⟨rfl,c2,c3,c4⟩⟩
end
theorem vg1 (x:Int):-9223372036854775808≤wrap64 x∧wrap64 x≤9223372036854775807:=by unfold wrap64;omega
def divK (a b:Int):Int:=if b=0 then 0 else if b=-1 then wrap64 (-a) else a.tdiv b
def modK (a b:Int):Int:=wrap64 (a - wrap64 (divK a b * b))
def qq9 (b:Bool):Int:=if b then 1 else 0
def oneK (op a:Int):Int:=if op=5 then wrap64 (-a) else if op=6 then qq9 (a == 0) else 0
def doK (op a b:Int):Int :=
  if op=7 then wrap64 (a+b) else if op=8 then wrap64 (a - b) else if op=9 then wrap64 (a * b) else if op=10 then divK a b else if op=11 then modK a b
  else if op=12 then qq9 (a == b) else if op=13 then qq9 (a != b) else if op=14 then qq9 (decide (a<b)) else if op=15 then qq9 (decide (a≤b)) else if op=16 then qq9 (decide (b<a)) else if op=17 then qq9 (decide (b≤a))
  else if op=18 then qq9 ((a != 0) && (b != 0)) else if op=19 then qq9 ((a != 0) || (b != 0)) else if op=20 then qq9 ((a != 0) != (b != 0)) else 0
theorem divK_in {a b:Int} (ha:-9223372036854775808≤a∧a≤9223372036854775807):-9223372036854775808≤divK a b∧divK a b≤9223372036854775807:=by
  unfold divK
  split
  · omega
  · split
    · exact vg1 _
    · rename_i h0 h1;have hn:(a.tdiv b).natAbs=a.natAbs / b.natAbs:=Int.natAbs_tdiv a b;have h2:2≤b.natAbs∨b=1:=omg;rcases h2 with h2 | h2
      · have:a.natAbs / b.natAbs≤a.natAbs / 2:=Nat.div_le_div_left h2 omg;omega
      · subst h2;rw [Int.tdiv_one];exact ha
def In64 (z:Int):Prop:=-9223372036854775808≤z∧z≤9223372036854775807
theorem in_ite {c:Prop} [Decidable c] {a b:Int} (h1:In64 a) (h2:In64 b):In64 (if c then a else b):=by split <;> assumption
theorem flagK_in (x:Bool):In64 (qq9 x):=by cases x <;> (unfold In64;simp [qq9])
theorem doK_in {op a b:Int} (ha:In64 a):In64 (doK op a b):=by
  have hw:∀ x,In64 (wrap64 x):=vg1;have hd:In64 (divK a b):=divK_in ha;unfold doK modK;generalize divK a b=d at *
  repeat' (with_reducible refine in_ite ?_ ?_)
  all_goals first | exact flagK_in _ | exact hw _ | exact hd | (unfold In64;omega)
theorem oneK_in (op a:Int):In64 (oneK op a):=by
  have hw:∀ x,In64 (wrap64 x):=vg1;unfold oneK
  repeat' (with_reducible refine in_ite ?_ ?_)
  all_goals first | exact flagK_in _ | exact hw _ | (unfold In64;omega)
theorem grow_any (n:Nat) (h0:0<n) (hn:n≤1000000) (w:World):Calls Tryz.prog 279 #[.slice none 0 0,.int .i64 (n:Nat)] w fun e w' => ∃ g c,e=.returned (.slice (some ⟨g,0,none⟩) 0 c)∧OB w' w.heap.size 5 (some ⟨g,0,none⟩) 0 c []∧Below w.heap.size w w':=by
  obtain ⟨ht,⟨i0,hi,hz,hs,hby⟩,hzs,_⟩:=qd8;have hold:(Builtin.firstCells i0.size 0 (.slice none 0 0)).run Tryz.prog w.drew=.ok ([]:List Value).toArray w.drew:=by simp [Builtin.firstCells]
  have hrz:∀ ty,(Builtin.append_ #[27,3] ty #[.slice none 0 0,.int .i64 (n:Nat)]).run Tryz.prog w =
      .ok (.slice (some ⟨w.heap.size,0,none⟩) n (grownCap w n 0 5)) (w.drew.alloc (.cells (([]:List Value).toArray ++ Builtin.zeroCells (Value.int .u8 0).cells n ++ Builtin.zeroCells (Value.int .u8 0).cells (grownCap w n 0 5 - n)) 5)):=fun ty => by
    have h:=Lib.run_append_grow_zeros (P:=Tryz.prog) w 27 3 ty 5 i0 (.int .u8 0) .i64 .i64 ht Tryz.underlying3 hi hz none 0 0 [] hold n h0 (by rw [hs];omega) omg omg (by rw [hby];omega)
      (by rw [Nat.zero_add];exact growslice_fits h0 (by rw [hby];omega))
    rw [Nat.zero_add] at h;exact h
  have hGn:n≤grownCap w n 0 5:=grownCap_ge w _ _ _;have hG63:=grownCap_le_maxLen w n 0 5 uml;have hown:∀ w':World,w'.heap[w.heap.size]?=some (.cells (([]:List Value).toArray ++ Builtin.zeroCells (Value.int .u8 0).cells n ++ Builtin.zeroCells (Value.int .u8 0).cells (grownCap w n 0 5 - n)) 5 (0,0)) →
      OB w' w.heap.size 5 (some ⟨w.heap.size,0,none⟩) 0 (grownCap w n 0 5) []:=fun w' h =>
    ⟨rfl,rfl,.inr ⟨w.heap.size,_,_,rfl,Nat.le_refl _,h,Nat.zero_le _,hG63,by
      rw [Array.size_append,Array.size_append,size_zeroCells,size_zeroCells,hzs]
      show 0+n * 1+_ * 1=_ * 1
      omega,by simp⟩⟩
  have hown2:=hown (w.drew.alloc (.cells (([]:List Value).toArray ++ Builtin.zeroCells (Value.int .u8 0).cells n ++ Builtin.zeroCells (Value.int .u8 0).cells (grownCap w n 0 5 - n)) 5)) (heap_alloc_new w.drew _);clear hold hi hz hs hby hzs ht hown i0;generalize (([]:List Value).toArray ++ Builtin.zeroCells (Value.int .u8 0).cells n ++ Builtin.zeroCells (Value.int .u8 0).cells (grownCap w n 0 5 - n))=C at *;generalize grownCap w n 0 5=G at *;unfold maxLen at hG63;have Hown:=hdd hown2;clear hown2;go_enter Tryz.func279,Tryz.ntmps279;go_wp2_with (at_builtin;refine Lib.wpList_append_run _ rfl _ _ _ _ rfl _ _ rfl rfl _ _ (hrz _) ?_);go_ret;exact ⟨w.heap.size,G,rfl,Hown.out,gwn⟩
theorem qs3 (n:Nat) (w:World) (h:n<9223372036854775808):Calls Tryz.prog 228 #[.int .i64 n] w fun e w' => ∃ A c,e=.returned (.slice A (digL 9 n).length c)∧OB w' w.heap.size 5 A (digL 9 n).length c (digL 9 n)∧Below w.heap.size w w':=by
  have hs:=fun w => short_any n w h
  generalize digL 9 n=L at *;clear h;go_enter Tryz.func228,Tryz.ntmps228;go_wp2_with (go_at_call 280;(with_reducible refine (hs _).mono ?_);rintro e w1 ⟨A1,c1,rfl,hown,hb⟩);go_ret;exact ⟨A1,c1,rfl,hown,hb⟩
theorem u8_wrap (t:Int) (h:t=1∨t=2):bv (UInt8.ofNat t.toNat)=.int .u8 t:=by rcases h with rfl | rfl <;> rfl
theorem vf9 (A:Option Addr) (n c:Nat) (l:List Int) (w:World) (hl:RI w A n l) (hr:qg8 l=true) :
    Calls Tryz.prog 227 #[.slice A n c] w fun e w' => ∃ A N c,e=.returned (.slice A N c)∧OB w' w.heap.size 5 A N c (qs9 l)∧Below w.heap.size w w':=by
  obtain ⟨r1,r2,r3⟩:=qe7.1 hr;have hlen:=hl.1;rw [hlen] at r1 r2 r3;have hs:=fun w => qs3 n w omg
  have hT:∀ k,k<n→Hid (digL 9 n ++ (l.take k).map (fun t => UInt8.ofNat t.toNat) ++ [UInt8.ofNat (qa6 l k).toNat]=digL 9 n ++ (l.take (k+1)).map (fun t => UInt8.ofNat t.toNat)):=fun k hk => by
    show _=_
    rw [List.take_succ_eq_append_getElem (show k<l.length by omega),List.map_append,List.append_assoc];unfold qa6;rw [List.getD_eq_getElem?_getD,List.getElem?_eq_getElem (show k<l.length by omega)]
    rfl
  have hD:=(ql3 9 n).1;have hfin:Hid (qs9 l=digL 9 n ++ (l.take n).map (fun t => UInt8.ofNat t.toNat)):=by
    show _=_
    unfold qs9;rw [hlen,List.take_of_length_le omg]
  have hL0:Hid (digL 9 n ++ (l.take 0).map (fun t => UInt8.ofNat t.toNat)=digL 9 n):=by show _=_;simp
  generalize qs9 l=B at *;have hlen2:∀ k,k≤n→(digL 9 n ++ (l.take k).map (fun t => UInt8.ofNat t.toNat)).length=(digL 9 n).length+k:=fun k hk => by simp [hlen];omega
  have Hlen2:=hdd hlen2;clear hlen hr hlen2;generalize hK:(fun k:Nat => digL 9 n ++ (l.take k).map (fun t => UInt8.ofNat t.toNat))=K;have HK:∀ k,Hid (digL 9 n ++ (l.take k).map (fun t => UInt8.ofNat t.toNat)=K k):=fun k => by rw [← hK];rfl
  clear hK;go_enter Tryz.func227,Tryz.ntmps227;go_wp2_with ((go_at_call 228;(with_reducible refine (hs _).mono ?_);rintro e w1 ⟨A1,c1,rfl,hown,hb⟩);have hbs:=hb.size);go_loopw [3,11] (fun v i wr => ∃ k A2 c2,k≤n∧i=.int .i64 (k:Nat)∧v=.slice A2 ((digL 9 n).length+k) c2∧Ow bv wr w.heap.size 5 A2 ((digL 9 n).length+k) c2 (K k)∧Below w.heap.size w wr) (fun _ i _ => n - (intOf i).toNat)
  case atStart => exact ⟨0,A1,c1,omg,rfl,rfl,by rw [← (HK 0).out,hL0.out];exact hown,hb⟩
  case round =>
    obtain ⟨k,A2,c2,hk,rfl,rfl,hown2,hbel⟩:=hrel;have hbs2:=hbel.size
    by_cases hlt:k<n
    · obtain ⟨b,o,rfl,_,hc⟩:=(hl.below hbel nlr).at_ hlt;have h12:=r1 k hlt;have hkT:=hT k hlt;have hbv:=hdd (u8_wrap _ h12);have hkL:Hid (K k ++ [UInt8.ofNat (qa6 l k).toNat]=K (k+1)):=by show _=_;rw [← (HK k).out,← (HK (k+1)).out];exact hkT.out
      clear r1 hT hkT HK hL0;rcases h12 with h | h
      all_goals
        rw [h] at hc hkL;clear h hbv
      · go_wp2_with (at_builtin;refine qc7 rfl rfl qd8 qf3 (s:=.tmp 15) (N:=(digL 9 n).length+(k+1)) (L:=K (k+1)) rfl (hown2.below (b:=wr.heap.size) gwn szz) rfl (k:=[(1:UInt8)]) (Rd.of_block (l:=[(1:UInt8)]) (qd3 _ _ smp) rfl) rfl (hkL.out) uml omg szz ?_;intro A5 c5 w5 hown5 hg5 hat5 hb5);replace hb5:=qa2 (a:=w) (B:=w.heap.size) gwn hb5 szz;have hb5s:=hb5.size;go_roundw
        case rel => exact ⟨k+1,A5,c5,omg,by go_num,rfl,hown5,hb5⟩
        case measure => simp [intOf];omega
      · go_wp2_with (at_builtin;refine qc7 rfl rfl qd8 qf3 (s:=.tmp 15) (N:=(digL 9 n).length+(k+1)) (L:=K (k+1)) rfl (hown2.below (b:=wr.heap.size) gwn szz) rfl (k:=[(2:UInt8)]) (Rd.of_block (l:=[(2:UInt8)]) (qd3 _ _ smp) rfl) rfl (hkL.out) uml omg szz ?_;intro A5 c5 w5 hown5 hg5 hat5 hb5);replace hb5:=qa2 (a:=w) (B:=w.heap.size) gwn hb5 szz;have hb5s:=hb5.size;go_roundw
        case rel => exact ⟨k+1,A5,c5,omg,by go_num,rfl,hown5,hb5⟩
        case measure => simp [intOf];omega
    · have hkn:k=n:=omg;subst hkn;have hF:Hid (B=K k):=by show _=_;rw [hfin.out];exact (HK k).out
      clear r1 hT HK hfin;go_wp2;go_ret;exact ⟨A2,_,c2,rfl,by rw [hF.out];exact hown2,hbel⟩
def sumK (f:Nat→Nat):Nat→Nat
  | 0 => 0
  | k+1 => sumK f k+f k
def catK (L:Nat→List UInt8):Nat→List UInt8
  | 0 => []
  | k+1 => catK L k ++ L k
theorem sumK_le (f:Nat→Nat) (B:Nat):∀ k,(∀ i,i<k→f i≤B)→sumK f k≤B * k:=by
  intro k
  induction k with
  | zero => intro _;simp [sumK]
  | succ k ih =>
    intro h;have h1:=ih (fun i hi => h i omg);have h2:=h k omg
    show sumK f k+f k≤B * (k+1)
    rw [Nat.mul_succ];omega
theorem sumK_mono (f:Nat→Nat) {j k:Nat} (h:j≤k):sumK f j≤sumK f k:=by
  induction k with
  | zero => rw [show j=0 by omega];exact Nat.le_refl _
  | succ k ih =>
    by_cases e:j=k+1
    · rw [e];exact Nat.le_refl _
    · exact Nat.le_trans (ih omg) (Nat.le_add_right _ _)
theorem catK_len (L:Nat→List UInt8) (f:Nat→Nat) (k:Nat) (h:∀ i,i<k→(L i).length=f i):(catK L k).length=sumK f k:=by
  induction k with
  | zero => rfl
  | succ k ih => show (catK L k ++ L k).length=_;rw [List.length_append,ih (fun i hi => h i omg),h k omg];rfl
theorem concat_any (b m c:Nat) (Av:Nat→Option Addr) (nv cv:Nat→Nat) (L:Nat→List UInt8) (w:World) (hm:m≤10) (hb:b<w.heap.size)
    (hrow:∀ i,i<m→w.cell? ⟨b,i,none⟩=some (.slice (Av i) (nv i) (cv i))) (hrd:∀ i,i<m→RB w (Av i) (nv i) (L i)) (hn:∀ i,i<m→nv i≤1000) (h1:0<sumK nv m) :
    Calls Tryz.prog 226 #[.slice (some ⟨b,0,none⟩) m c] w fun e w' => ∃ A N c,e=.returned (.slice A N c)∧OB w' w.heap.size 5 A N c (catK L m)∧Below w.heap.size w w':=by
  have hle:=sumK_le nv 1000 m hn;have hS:∀ k,Hid (sumK nv (k+1)=sumK nv k+nv k):=fun k => rfl
  have hmono:=fun k (h:k≤m) => sumK_mono nv h
  have hcl:∀ k,k≤m→(catK L k).length=sumK nv k:=fun k hk => catK_len L nv k (fun i hi => (hrd i omg).1)
  have Hcl:=hdd hcl;clear hcl;have hC:∀ k,Hid (catK L k ++ L k=catK L (k+1)):=fun k => rfl
  have hS0:Hid (sumK nv 0=0):=rfl;have hC0:Hid (catK L 0=[]):=rfl;generalize catK L=K at *;generalize sumK nv=S at *;go_enter Tryz.func226,Tryz.ntmps226;go_wp2;go_loop [3,11] (fun v i => ∃ k:Nat,k≤m∧i=.int .i64 (k:Nat)∧v=.int .i64 (S k:Nat)) (fun _ i => m - (intOf i).toNat)
  case atStart => exact ⟨0,omg,rfl,by rw [hS0.out];rfl⟩
  case round =>
    obtain ⟨k,hk,rfl,rfl⟩:=hrel
    by_cases hlt:k<m
    · have hc:=hrow k hlt;have hs:=hS k;have hnk:=hn k hlt;have hmk:=hmono k hk;clear hrow hS hC hmono hrd hn;generalize nv k=x at *;go_wp2;go_round
      case rel => exact ⟨k+1,omg,by go_num,by rw [hs.out];go_num⟩
      case measure => simp [intOf];omega
    · have hkm:k=m:=omg;subst hkm;have hg:=fun w => grow_any (S k) h1 omg w
      go_wp2_with (go_at_call 279;(with_reducible refine (hg _).mono ?_);rintro e w1 ⟨g,c1,rfl,hown,hb1⟩);clear hg;go_loopw [6,27] (fun v i wr => ∃ (j:Nat) (A2:Option Addr) (c2:Nat),j≤k∧i=.int .i64 (j:Nat)∧v=.slice A2 (S j) c2∧Ow bv wr w.heap.size 5 A2 (S j) c2 (K j)∧Below w.heap.size w wr) (fun _ i _ => k - (intOf i).toNat)
      case atStart => exact ⟨0,some ⟨g,0,none⟩,c1,omg,rfl,by rw [hS0.out],by rw [hS0.out,hC0.out];exact hown,hb1⟩
      case round =>
        obtain ⟨j,A2,c2,hj,rfl,rfl,hown2,hbel⟩:=hrel;have hbs:=hbel.size
        by_cases hlt2:j<k
        · have hc:wr.cell? ⟨b,j,none⟩=some (.slice (Av j) (nv j) (cv j)):=(hbel.cell (p:=⟨b,j,none⟩) hb).trans (hrow j hlt2);have hrj:=(hrd j hlt2).below hbel nlr;have hs:=hS j;have hnk:=hn j hlt2;have hmk:=hmono j hj;have hkL:Hid (K j ++ L j=K (j+1)):=hC j;have hmk2:=hmono (j+1) omg;clear hrow hS hC hmono hrd hn hown hb1;generalize nv j=x at *;generalize Av j=A3 at *;generalize cv j=c3 at *;go_wp2_with (at_builtin;refine qc7 rfl rfl qd8 qf3 (s:=.tmp 31) (N:=S (j+1)) (L:=K (j+1)) rfl hown2 rfl (k:=L j) hrj.rd hs.out.symm hkL.out uml omg omg ?_;intro A5 c5 w5 hown5 hg5 hat5 hb5);replace hb5:=qa2 (a:=w) (B:=w.heap.size) gwn hb5 szz;have hb5s:=hb5.size;go_roundw
          case rel => exact ⟨j+1,A5,c5,omg,by go_num,rfl,hown5,hb5⟩
          case measure => simp [intOf];omega
        · have hjk:j=k:=omg;subst hjk;clear hrow hS hC hmono hrd hn hown hb1;go_wp2;go_ret;exact ⟨A2,_,c2,rfl,hown2,hbel⟩
end Go.Proofs.YtmeebofhlilcmaaGreat
