/- Parts: PlainSlotN. -/
import Derived.Test.YtmeebofhlilcmaaGreatPr02
import Derived.Test.YtmeebofhlilcmaaGreatPr22
set_option linter.unusedVariables false
set_option linter.unusedSimpArgs false
set_option maxRecDepth 100000
set_option maxHeartbeats 40000000
namespace Go.Proofs.YtmeebofhlilcmaaGreat
open Go.RowKit
def vl8 (N:Secs) (f:Nat):Nat→List UInt8
  | 0 => []
  | k+1 => vl8 N f k ++ N (f+(1+k))
def slotO (O:Int × List UInt8 × Int) (N:Secs) (f:Nat):List UInt8 × Int × Int :=
  if O.2.2≠0 then ([],0,53)
  else if O.2.1.length≠12 then ([],0,53)
  else if qv2 O.2.1<0∨512<qv2 O.2.1 then ([],0,53)
  else if sumL ((vl8 N f (qf4 (qv2 O.2.1).toNat)).take (qv2 O.2.1).toNat)=O.2.1.drop 8 then ((vl8 N f (qf4 (qv2 O.2.1).toNat)).take (qv2 O.2.1).toNat,O.1,0)
  else ([],0,53)
def qn5 (N:Secs) (f:Nat):List UInt8 × Int × Int:=slotO (qq7 (N f) 2) N f
theorem openV_err (S:List UInt8) (kind:Int):(qq7 S kind).2.2=0∨(qq7 S kind).2.2=53:=by
  unfold qq7
  split
  · exact .inl rfl
  · exact .inr rfl
theorem bodyN_same {N N':Secs} {f:Nat} (h:∀ j,f≤j→j<f+5→N' j=N j):∀ k,k≤4→vl8 N' f k=vl8 N f k:=by
  intro k
  induction k with
  | zero => intro _;rfl
  | succ k ih =>
    intro hk;unfold vl8;rw [ih omg,h (f+(1+k)) omg omg]
theorem qw0 {N N':Secs} {f:Nat} (h:∀ j,f≤j→j<f+5→N' j=N j):qn5 N' f=qn5 N f:=by
  unfold qn5;rw [h f omg omg];generalize qq7 (N f) 2=O;unfold slotO
  by_cases q1:O.2.2≠0
  · rw [if_pos q1,if_pos q1]
  rw [if_neg q1,if_neg q1]
  by_cases q2:O.2.1.length≠12
  · rw [if_pos q2,if_pos q2]
  rw [if_neg q2,if_neg q2]
  by_cases q3:qv2 O.2.1<0∨512<qv2 O.2.1
  · rw [if_pos q3,if_pos q3]
  rw [if_neg q3,if_neg q3,bodyN_same h _ (by unfold qf4;omega)]
theorem ve6 {N:Secs} {f:Nat} (h:qs0 (N f) 2=false):(qn5 N f).2.2=53:=by
  unfold qn5 slotO qq7;rw [h]
  rfl
theorem bodyN_pads {N:Secs} {f:Nat} {load:List UInt8} (hb:∀ i,i<qf4 load.length→N (f+(1+i))=padL load i):(vl8 N f (qf4 load.length)).take load.length=load:=by
  have h2:load.length≤qf4 load.length * 128:=by unfold qf4;omega
  have key:∀ k,k≤qf4 load.length→vl8 N f k=(load ++ List.replicate (qf4 load.length * 128 - load.length) 0).take (k * 128):=by
    intro k
    induction k with
    | zero => intro _;rfl
    | succ k ih =>
      intro hk;unfold vl8;rw [ih omg,hb k omg,padL_of omg,show (k+1) * 128=k * 128+128 by omega,List.take_add]
  have e:(load ++ List.replicate (qf4 load.length * 128 - load.length) 0).take (qf4 load.length * 128)=load ++ List.replicate (qf4 load.length * 128 - load.length) 0:=List.take_of_length_le (by rw [List.length_append,List.length_replicate];omega);rw [key _ nlr,e,List.take_left]
theorem slotN_of {N:Secs} {f n:Nat} {load:List UInt8} (hl:load.length≤512) (hn:n<9223372036854775808) (h0:N f=qe2 2 n (qm3 load)) (hb:∀ i,i<qf4 load.length→N (f+(1+i))=padL load i):qn5 N f=(load,(n:Int),0):=by
  obtain ⟨h1,h2,h3⟩:=vg8 (kind:=2) (n:=n) (load:=qm3 load) omg omg hn (by rw [va1];omega);have e:(2:Int).toNat=2:=rfl;rw [e] at h1 h2 h3;have ho:qq7 (N f) 2=((n:Int),qm3 load,0):=by
    rw [h0];unfold qq7;rw [if_pos h1,h2,h3];unfold sg;rw [if_pos hn]
  obtain ⟨a1,a2⟩:=headN_of hl;unfold qn5;rw [ho];unfold slotO;rw [if_neg smp,if_neg (by rw [va1];simp)];simp only;rw [a1,if_neg omg,Int.toNat_natCast,bodyN_pads hb,a2,if_pos rfl]
theorem whole_ops {D:qa1} {f m:Nat}:∃ o,(qc8 D f m).1={ D with ops:=o }:=by
  have h:∃ o,(qb4 D f m 0).1={ D with ops:=o }:=by
    unfold qb4 qt2
    split
    · exact ⟨D.ops,rfl⟩
    · split
      · exact ⟨D.ops,rfl⟩
      · exact ⟨mAdd D.ops 1 1,rfl⟩
  obtain ⟨o,e⟩:=h;have h2:∀ k,∃ o,rdK (qb4 D f m 0).1 k={ D with ops:=o }:=fun k => by
    obtain ⟨o2,e2⟩:=qo8 (qb4 D f m 0).1 k;exact ⟨o2,by rw [e2,e]⟩
  unfold qc8
  split
  · exact ⟨o,e⟩
  split
  · exact ⟨o,e⟩
  split
  · exact ⟨o,e⟩
  split
  · exact h2 _
  · exact h2 _
theorem Rest.whole {D:qa1} {N:Secs} {f m:Nat} (h:Rest D N) (hf:f+m≤D.many) (hm:5≤m):(qc8 D f m).2=qn5 N f:=by
  have hr:qb4 D f m 0=(qj0 D,N f,0):=by
    have:=vn9 (D:=D) (f:=f) (m:=m) (k:=0) h.fit.off hf omg;rw [Nat.add_zero,h.now f omg] at this;exact this
  have ht:qe5 D f m 0 2=qq7 (N f) 2:=by
    unfold qe5;rw [hr,if_neg smp]
  have hb:∀ k,k≤4→qz2 D.now f k=vl8 N f k:=by
    intro k
    induction k with
    | zero => intro _;rfl
    | succ k ih =>
      intro hk;unfold qz2 vl8;rw [ih omg,h.now (f+(1+k)) omg]
  unfold qc8 qn5;rw [ht];have he:=openV_err (N f) 2;generalize qq7 (N f) 2=O at *;unfold slotO
  by_cases q1:O.2.2≠0
  · rw [if_pos q1,if_pos q1];rcases he with e | e
    · exact absurd e q1
    · rw [e]
  rw [if_neg q1,if_neg q1]
  by_cases q2:O.2.1.length≠12
  · rw [if_pos q2,if_pos q2]
  rw [if_neg q2,if_neg q2]
  by_cases q3:qv2 O.2.1<0∨512<qv2 O.2.1
  · rw [if_pos q3,if_pos q3]
  rw [if_neg q3,if_neg q3,hb _ (by unfold qf4;omega)]
  split <;> rfl
structure SlN (N:Secs) (s:SlV3) (n:Nat):Prop where
  num:s.number=(n:Int)
  none_:n=0→s=⟨2,0,[]⟩∧(qn5 N 1).2.2=53∧(qn5 N 6).2.2=53
  some_:0<n→(s.now=0∨s.now=1)∧qn5 N (1+5 * s.now)=(s.load,(n:Int),0)∧((qn5 N (1+5 * (1 - s.now))).2.2=53∨((qn5 N (1+5 * (1 - s.now))).2.2=0∧(qn5 N (1+5 * (1 - s.now))).2.1<(n:Int)))
section
variable {D:qa1} {N N':Secs} {s:SlV3} {n:Nat}
theorem SlN.keep (h:SlN N s n) (hout:∀ j:Nat,1≤j→j<11→(j<1+5 * othS s∨1+5 * othS s+5≤j)→N' j=N j)
    (hf:qn5 N' (1+5 * othS s)=qn5 N (1+5 * othS s)∨(qn5 N' (1+5 * othS s)).2.2=53):SlN N' s n:=by
  refine ⟨h.num,fun h0 => ?_,fun h1 => ?_⟩
  · obtain ⟨e1,e2,e3⟩:=h.none_ h0;subst e1;have ho:othS ⟨2,0,[]⟩=0:=rfl;rw [ho] at hout hf;refine ⟨rfl,?_,?_⟩
    · rcases hf with e | e
      · rw [show qn5 N' 1=qn5 N 1 from e];exact e2
      · exact e
    · rw [qw0 (N:=N) (N':=N') (f:=6) (fun j j1 j2 => hout j omg omg omg)];exact e3
  · obtain ⟨e1,e2,e3⟩:=h.some_ h1;have ho:othS s=1 - s.now:=by unfold othS;rcases e1 with e | e <;> rw [e] <;> rfl
    rw [ho] at hout hf;refine ⟨e1,?_,?_⟩
    · rw [qw0 (N:=N) (N':=N') (f:=1+5 * s.now) (fun j j1 j2 => hout j omg omg omg)];exact e2
    · rcases hf with e | e
      · rw [e];exact e3
      · exact .inl e
theorem SlN.congr (h:SlN N s n) (hs:∀ j:Nat,1≤j→j<11→N' j=N j):SlN N' s n :=
  h.keep (fun j j1 j2 _ => hs j j1 j2) (.inl (qw0 (fun j j1 j2 => hs j omg (by have:=othS_le s;omega))))
theorem SlN.next (h:SlN N s n) (hout:∀ j:Nat,1≤j→j<11→(j<1+5 * othS s∨1+5 * othS s+5≤j)→N' j=N j) {load:List UInt8}
    (hf:qn5 N' (1+5 * othS s)=(load,((n+1:Nat):Int),0)):SlN N' ⟨othS s,((n+1:Nat):Int),load⟩ (n+1):=by
  refine ⟨rfl,fun h0 => absurd h0 omg,fun _ => ?_⟩;have ho:othS s=0∨othS s=1:=by unfold othS;split <;> simp
  refine ⟨ho,hf,?_⟩;have hsame:qn5 N' (1+5 * (1 - othS s))=qn5 N (1+5 * (1 - othS s)):=qw0 (fun j j1 j2 => hout j omg omg omg)
  show (qn5 N' (1+5 * (1 - othS s))).2.2=53∨((qn5 N' (1+5 * (1 - othS s))).2.2=0∧(qn5 N' (1+5 * (1 - othS s))).2.1<((n+1:Nat):Int))
  rw [hsame];rcases Nat.eq_zero_or_pos n with q | q
  · obtain ⟨e1,e2,e3⟩:=h.none_ q;subst e1;exact .inl e3
  · obtain ⟨e1,e2,_⟩:=h.some_ q;have e4:1 - othS s=s.now:=by unfold othS;rcases e1 with e | e <;> rw [e] <;> rfl
    rw [e4,e2];exact .inr ⟨rfl,by show (n:Int)<_;omega⟩
theorem SlN.open_ (h:SlN N s n) (hr:Rest D N) (hm:11≤D.many):∃ o,qf7 D 1 5 6 5=({ D with ops:=o },s,0):=by
  obtain ⟨o1,d1⟩:=whole_ops (D:=D) (f:=1) (m:=5);obtain ⟨o2,d2⟩:=whole_ops (D:={ D with ops:=o1 }) (f:=6) (m:=5);have w1:=hr.whole (f:=1) (m:=5) omg omg;have w2:(qc8 { D with ops:=o1 } 6 5).2=qn5 N 6:=(hr.ops o1).whole (f:=6) (m:=5) (by show 6+5≤D.many;omega) omg;refine ⟨o2,?_⟩;unfold qf7;rw [d1,d2,w1,w2];rcases Nat.eq_zero_or_pos n with q | q
  · obtain ⟨e1,e2,e3⟩:=h.none_ q;rw [e2,e3,e1]
    rfl
  · obtain ⟨e1,e2,e3⟩:=h.some_ q;obtain ⟨now,number,load⟩:=s;have hn:=h.num;simp only at hn e1 e2 e3;subst hn;rcases e1 with rfl | rfl
    · simp only [Nat.mul_zero,Nat.sub_zero,Nat.mul_one,Nat.add_zero,Nat.reduceAdd] at e2 e3;rw [e2];rcases e3 with e3 | ⟨e3,e4⟩
      · rw [e3];simp
      · rw [e3];have:(qn5 N 6).2.1≤(n:Int):=omg;simp [this]
    · simp only [Nat.mul_one,Nat.sub_self,Nat.mul_zero,Nat.add_zero] at e2 e3;rw [show qn5 N 6=(load,(n:Int),0) from e2];rcases e3 with e3 | ⟨e3,e4⟩
      · rw [e3];simp
      · rw [e3];have:¬ ((n:Int)≤(qn5 N 1).2.1):=omg;simp [this]
end
def mixP (Q P:Says):Says:=fun s S => if 1≤s∧s<11 then Q s S else P s S
theorem vd4 {Q P:Says} {s:Nat} (h:1≤s∧s<11):mixP Q P s=Q s:=by funext S;unfold mixP;rw [if_pos h]
theorem vi5 {Q P:Says} {s:Nat} (h:¬ (1≤s∧s<11)):mixP Q P s=P s:=by funext S;unfold mixP;rw [if_neg h]
def stA (N:Secs) (f:Nat):Says:=fun s S => if s=f then S=N f∨qa4 S 0=0 else S=N s
def stB (N:Secs) (f:Nat):Says:=fun s S => if s=f then S=qa3 else if f<s∧s<f+5 then True else S=N s
def stC (N:Secs) (f number:Nat) (load:List UInt8):Says:=fun s S => if s=f then S=qe2 2 number (qm3 load)∨qa4 S 127=0 else S=laid (qv4 N f) f load (qf4 load.length) s
theorem stA_shut (N:Secs) (f:Nat):qo2 (stA N f f) qa3:=by
  intro S c hc hS h;unfold stA at h ⊢;rw [if_pos rfl] at h ⊢;have hl:(qa3.take c).length=c:=by rw [List.length_take,qc0];omega
  rcases Nat.eq_zero_or_pos c with q | q
  · subst q;have e:splice S 0 (qa3.take 0)=S:=by simp [splice]
    rw [e];exact h
  · right
    rw [qi4 (by rw [hl,hS];omega),if_pos (by rw [hl];omega),Nat.sub_zero,va7 omg]
    decide
theorem stB_shut (N:Secs) (f:Nat) {s:Nat} (b:List UInt8) (h:f<s∧s<f+5):qo2 (stB N f s) b:=by
  intro S c hc hS _;unfold stB;rw [if_neg omg,if_pos h]
  trivial
theorem stC_shut (N:Secs) (f number:Nat) (load:List UInt8):qo2 (stC N f number load f) (qe2 2 number (qm3 load)):=by
  have hS0:=qo6 2 number (qm3 load) (by rw [va1];omega);generalize hg:qe2 2 number (qm3 load)=S0 at *;intro S c hc hS h;unfold stC at h ⊢;rw [if_pos rfl] at h ⊢;rw [hg] at h ⊢;have hl:(S0.take c).length=c:=by rw [List.length_take];omega
  by_cases hc8:c=128
  · left
    subst hc8;rw [List.take_of_length_le omg];exact qc1 _ _ omg
  · rcases h with e | e
    · left
      subst e;unfold splice;rw [List.take_zero,List.nil_append,Nat.zero_add,hl,List.take_append_drop]
    · right
      rw [qi4 (by rw [hl,hS];omega),if_neg (by rw [hl];omega)];exact e
section
variable {D:qa1} {N:Secs} {P:Says} {f number:Nat} {load:List UInt8}
theorem Pow.fill {Q:Says} (hf:1≤f∧f+5≤11) (hQ:∀ s b,f<s∧s<f+5→qo2 (Q s) b):∀ (k i:Nat) {D:qa1},Pow D (laid N f load i) (mixP Q P)→11≤D.many→i+k≤4→D.waits.length+k<1000000 →
    (qp7 D f 5 load i k).1.many=D.many∧(((qp7 D f 5 load i k).2=0∧Pow (qp7 D f 5 load i k).1 (laid N f load (i+k)) (mixP Q P)∧(D.cut=-1→(qp7 D f 5 load i k).1.cut=-1)) ∨
      ((qp7 D f 5 load i k).2=50∧(qp7 D f 5 load i k).1.off=true∧D.cut≠-1∧Safe (qp7 D f 5 load i k).1 (mixP Q P))):=by
  intro k
  induction k with
  | zero => intro i D h _ _ _;exact ⟨rfl,.inl ⟨rfl,h,fun e => e⟩⟩
  | succ k ih =>
    intro i D h hm hi hw;obtain ⟨a1,a2,a3⟩:=h.awrite (f:=f) (m:=5) (n:=1+i) omg omg (vq7 load i) omg (by rw [vd4 omg];exact hQ _ _ omg);rcases a3 with ⟨e,ho,hc⟩ | ⟨e,b1,b2,b3⟩
    · rw [vr5 e];have hl:(qa9 D f 5 ((1+i:Nat):Int) (padL load i)).1.waits.length=D.waits.length+1:=by rw [a2];simp
      have ho2:Pow (qa9 D f 5 ((1+i:Nat):Int) (padL load i)).1 (laid N f load (i+1)) (mixP Q P):=by
        refine ho.congr (fun s hs => ?_);unfold putN laid
        by_cases q:s=f+(1+i)
        · rw [if_pos q,if_pos omg,show s - (f+1)=i by omega]
        · rw [if_neg q]
          by_cases q2:f+1≤s∧s<f+1+i
          · rw [if_pos q2,if_pos omg]
          · rw [if_neg q2,if_neg omg]
      obtain ⟨c1,c2⟩:=ih (i+1) ho2 (by rw [a1];exact hm) omg omg;rw [show i+1+k=i+(k+1) by omega] at c2;refine ⟨c1.trans a1,?_⟩;rcases c2 with ⟨d1,d2,d3⟩ | ⟨d1,d2,d3,d4⟩
      · exact .inl ⟨d1,d2,fun q => d3 (hc q)⟩
      · exact .inr ⟨d1,d2,fun q => d3 (hc q),d4⟩
    · rw [vh2 (by rw [e];simp)];exact ⟨a1,.inr ⟨e,b1,b2,b3⟩⟩
theorem Rest.save (h:Rest D N) (hm:11≤D.many) (hf:1≤f∧f+5≤11) (hP:∀ s:Nat,s<D.many→¬ (1≤s∧s<11)→P s (N s)) (hn:number<9223372036854775807) (hl:load.length≤512) :
    (qn7 D f 5 (number:Int) load).1.many=D.many ∧
    (((qn7 D f 5 (number:Int) load).2=0∧Rest (qn7 D f 5 (number:Int) load).1 (putN (laid (qv4 N f) f load (qf4 load.length)) f (qe2 2 number (qm3 load)))∧(D.cut=-1→(qn7 D f 5 (number:Int) load).1.cut=-1)) ∨
    ((qn7 D f 5 (number:Int) load).2=50∧(qn7 D f 5 (number:Int) load).1.off=true∧D.cut≠-1 ∧
      (Safe (qn7 D f 5 (number:Int) load).1 (mixP (stA N f) P)∨Safe (qn7 D f 5 (number:Int) load).1 (mixP (stB N f) P)∨Safe (qn7 D f 5 (number:Int) load).1 (mixP (stC N f number load) P)))):=by
  have hk:qf4 load.length≤4:=by unfold qf4;omega
  have p0:Pow D N (mixP (stA N f) P):=h.pow (fun s hs => by
    by_cases q:1≤s∧s<11
    · rw [vd4 q];unfold stA
      split
      · rename_i e;subst e;exact .inl rfl
      · rfl
    · rw [vi5 q];exact hP s hs q)
  obtain ⟨l1,l2,c1⟩:=p0.awrite (f:=f) (m:=5) (n:=0) omg omg qc0 (by rw [h.waits];simp) (by rw [vd4 omg];exact stA_shut N f);rw [show ((0:Nat):Int)=0 from rfl] at l1 l2 c1;unfold qn7;rcases c1 with ⟨e1,o1,k1⟩ | ⟨e1,f1,k1,b1⟩;rotate_left 1
  · rw [if_pos (by rw [e1];simp)];exact ⟨l1,.inr ⟨e1,f1,k1,.inl b1⟩⟩
  rw [if_neg (by rw [e1];simp)];generalize (qa9 D f 5 0 qa3).1=D1 at *;obtain ⟨l3,c2⟩:=o1.flush;rcases c2 with ⟨e2,o2,k2⟩ | ⟨e2,f2,k2,b2⟩;rotate_left 1
  · rw [if_pos (by rw [e2];simp)];exact ⟨l3.trans l1,.inr ⟨e2,f2,fun q => k2 (k1 q),.inl b2⟩⟩
  rw [if_neg (by rw [e2];simp)];generalize (qb0 D1).1=D2 at *;have hm2:D2.many=D.many:=l3.trans l1;have o2':Rest D2 (laid (qv4 N f) f load 0):=o2.congr (fun s hs => by
    unfold putN laid qv4;rw [if_neg (c:=f+1≤s∧s<f+1+0) omg,Nat.add_zero])
  have hz:∀ s:Nat,s≠f→(s≤f∨f+5≤s)→∀ k,k≤4→laid (qv4 N f) f load k s=N s:=fun s q1 q2 k hk => by
    unfold laid qv4;rw [if_neg omg,if_neg q1]
  have hzf:∀ k,laid (qv4 N f) f load k f=qa3:=fun k => by
    unfold laid qv4;rw [if_neg omg,if_pos rfl]
  have p2:Pow D2 (laid (qv4 N f) f load 0) (mixP (stB N f) P):=o2'.pow (fun s hs => by
    rw [hm2] at hs
    by_cases q:1≤s∧s<11
    · rw [vd4 q];unfold stB
      split
      · rename_i e;subst e;exact hzf 0
      · split
        · trivial
        · exact hz s omg omg 0 omg
    · rw [vi5 q,hz s omg omg 0 omg];exact hP s hs q)
  obtain ⟨l4,c3⟩:=Pow.fill hf (fun s b q => stB_shut N f b q) (qf4 load.length) 0 p2 omg omg (by rw [o2.waits];simp;omega);rw [Nat.zero_add] at c3;unfold qn1;rcases c3 with ⟨e3,o3,k3⟩ | ⟨e3,f3,k3,b3⟩;rotate_left 1
  · rw [if_pos (show (if (qp7 D2 f 5 load 0 (qf4 load.length)).2≠0 then qp7 D2 f 5 load 0 (qf4 load.length) else qb0 (qp7 D2 f 5 load 0 (qf4 load.length)).1).2≠0 by rw [if_pos (by rw [e3];simp),e3];simp),if_pos (by rw [e3];simp)];exact ⟨l4.trans hm2,.inr ⟨e3,f3,fun q => k3 (k2 (k1 q)),.inr (.inl b3)⟩⟩
  have hfv:(if (qp7 D2 f 5 load 0 (qf4 load.length)).2≠0 then qp7 D2 f 5 load 0 (qf4 load.length) else qb0 (qp7 D2 f 5 load 0 (qf4 load.length)).1)=qb0 (qp7 D2 f 5 load 0 (qf4 load.length)).1:=by rw [if_neg (by rw [e3];simp)]
  rw [hfv];generalize (qp7 D2 f 5 load 0 (qf4 load.length)).1=D3 at *;obtain ⟨l5,c4⟩:=o3.flush;rcases c4 with ⟨e4,o4,k4⟩ | ⟨e4,f4,k4,b4⟩;rotate_left 1
  · rw [if_pos (by rw [e4];simp)];exact ⟨(l5.trans l4).trans hm2,.inr ⟨e4,f4,fun q => k4 (k3 (k2 (k1 q))),.inr (.inl b4)⟩⟩
  rw [if_neg (by rw [e4];simp)];generalize (qb0 D3).1=D4 at *;have hm4:D4.many=D.many:=(l5.trans l4).trans hm2;have hmk:qz1 2 (number:Int) (qm3 load)=(qe2 2 number (qm3 load),0):=by
    unfold qz1;rw [if_neg omg,if_neg (by rw [va1];omega)];simp
  have hpv:qh1 D4 f 5 0 2 (number:Int) (qm3 load)=qa9 D4 f 5 0 (qe2 2 number (qm3 load)):=by
    unfold qh1;rw [hmk,if_neg smp]
  rw [hpv];have p4:Pow D4 (laid (qv4 N f) f load (qf4 load.length)) (mixP (stC N f number load) P):=o4.pow (fun s hs => by
    rw [hm4] at hs
    by_cases q:1≤s∧s<11
    · rw [vd4 q];unfold stC
      split
      · rename_i e;subst e;right;rw [hzf];decide
      · rfl
    · rw [vi5 q,hz s omg omg _ hk];exact hP s hs q)
  obtain ⟨l6,l7,c5⟩:=p4.awrite (f:=f) (m:=5) (n:=0) omg omg (qo6 2 number (qm3 load) (by rw [va1];omega)) (by rw [o4.waits];simp) (by rw [vd4 omg];exact stC_shut N f number load);rw [show ((0:Nat):Int)=0 from rfl] at l6 l7 c5;rcases c5 with ⟨e5,o5,k5⟩ | ⟨e5,f5,k5,b5⟩;rotate_left 1
  · rw [if_pos (by rw [e5];simp)];exact ⟨l6.trans hm4,.inr ⟨e5,f5,fun q => k5 (k4 (k3 (k2 (k1 q)))),.inr (.inr b5)⟩⟩
  rw [if_neg (by rw [e5];simp)];generalize (qa9 D4 f 5 0 (qe2 2 number (qm3 load))).1=D5 at *;obtain ⟨l8,c6⟩:=o5.flush;rcases c6 with ⟨e6,o6,k6⟩ | ⟨e6,f6,k6,b6⟩
  · exact ⟨(l8.trans l6).trans hm4,.inl ⟨e6,o6,fun q => k6 (k5 (k4 (k3 (k2 (k1 q)))))⟩⟩
  · exact ⟨(l8.trans l6).trans hm4,.inr ⟨e6,f6,fun q => k6 (k5 (k4 (k3 (k2 (k1 q))))),.inr (.inr b6)⟩⟩
end
def SlMay (N:Secs) (s:SlV3) (n:Nat) (L:List UInt8):Prop:=SlN N s n∨SlN N ⟨othS s,((n+1:Nat):Int),L⟩ (n+1)
section
variable {D:qa1} {N:Secs} {P:Says} {s:SlV3} {n:Nat} {L:List UInt8}
theorem SlN.save (h:SlN N s n) (hr:Rest D N) (hm:11≤D.many) (hP:∀ s:Nat,s<D.many→¬ (1≤s∧s<11)→P s (N s)) (hn:n<9223372036854775806) (hL:L.length≤512) :
    (qf6 D 1 5 6 5 s L).1.many=D.many ∧
    (((qf6 D 1 5 6 5 s L).2.2=0∧(qf6 D 1 5 6 5 s L).2.1=⟨othS s,((n+1:Nat):Int),L⟩∧(D.cut=-1→(qf6 D 1 5 6 5 s L).1.cut=-1) ∧
      ∃ N',Rest (qf6 D 1 5 6 5 s L).1 N'∧SlN N' ⟨othS s,((n+1:Nat):Int),L⟩ (n+1)∧∀ j,¬ (1≤j∧j<11)→N' j=N j) ∨
    ((qf6 D 1 5 6 5 s L).2.2=50∧(qf6 D 1 5 6 5 s L).2.1=s∧(qf6 D 1 5 6 5 s L).1.off=true∧D.cut≠-1 ∧
      ∃ Q:Says,Safe (qf6 D 1 5 6 5 s L).1 (mixP Q P)∧∀ N':Secs,(∀ j,1≤j→j<11→Q j (N' j))→SlMay N' s n L)):=by
  have hle:=othS_le s;have hf:(if s.now=0 then 6 else 1)=1+5 * othS s:=by unfold othS;split <;> rfl
  have ho:(if s.now=0 then 1 else 0)=othS s:=by unfold othS;rfl
  have hm5:(if s.now=0 then 5 else 5)=5:=by split <;> rfl
  have hnum:=h.num;have e:qf6 D 1 5 6 5 s L=if (qn7 D (1+5 * othS s) 5 ((n+1:Nat):Int) L).2≠0 then ((qn7 D (1+5 * othS s) 5 ((n+1:Nat):Int) L).1,s,(qn7 D (1+5 * othS s) 5 ((n+1:Nat):Int) L).2) else ((qn7 D (1+5 * othS s) 5 ((n+1:Nat):Int) L).1,⟨othS s,((n+1:Nat):Int),L⟩,0):=by
    unfold qf6;rw [if_neg (by rw [hnum];omega),hf,ho,hm5,hnum,show (n:Int)+1=((n+1:Nat):Int) by omega]
  rw [e];have hk4:qf4 L.length≤4:=by unfold qf4;omega
  have hs:=hr.save (f:=1+5 * othS s) (number:=n+1) (load:=L) hm omg hP omg hL;generalize qn7 D (1+5 * othS s) 5 ((n+1:Nat):Int) L=R at *;obtain ⟨E,z⟩:=R;obtain ⟨a1,a2⟩:=hs;simp only at a1 a2 ⊢;have hlaid:∀ (i:Nat),i<qf4 L.length→laid (qv4 N (1+5 * othS s)) (1+5 * othS s) L (qf4 L.length) (1+5 * othS s+(1+i))=padL L i:=fun i hi => by
    unfold laid;rw [if_pos omg,show 1+5 * othS s+(1+i) - (1+5 * othS s+1)=i by omega]
  have hout:∀ j:Nat,j≠1+5 * othS s→(j≤1+5 * othS s∨1+5 * othS s+5≤j)→laid (qv4 N (1+5 * othS s)) (1+5 * othS s) L (qf4 L.length) j=N j:=fun j q1 q2 => by
    unfold laid qv4;rw [if_neg omg,if_neg q1]
  rcases a2 with ⟨e1,o1,k1⟩ | ⟨e1,f1,k1,hb⟩
  · rw [if_neg (by rw [e1];simp)];refine ⟨a1,.inl ⟨rfl,rfl,k1,_,o1,h.next (fun j j1 j2 hc => ?_) (slotN_of hL omg ?_ (fun i hi => ?_)),fun j hj => ?_⟩⟩
    · unfold putN;rw [if_neg omg];exact hout j omg omg
    · unfold putN;rw [if_pos rfl]
    · unfold putN;rw [if_neg omg];exact hlaid i hi
    · unfold putN;rw [if_neg omg];exact hout j omg omg
  · rw [if_pos (by rw [e1];simp)];refine ⟨a1,.inr ⟨e1,rfl,f1,k1,?_⟩⟩;rcases hb with hb | hb | hb
    · refine ⟨_,hb,fun N' hN => .inl (h.keep (fun j j1 j2 hc => ?_) ?_)⟩
      · have:=hN j j1 j2;unfold stA at this
        rwa [if_neg omg] at this
      · have:=hN (1+5 * othS s) omg omg;unfold stA at this;rw [if_pos rfl] at this;rcases this with q | q
        · left
          refine qw0 (fun j j1 j2 => ?_)
          by_cases qj:j=1+5 * othS s
          · rw [qj];exact q
          · have:=hN j omg omg;unfold stA at this
            rwa [if_neg qj] at this
        · right
          exact ve6 (vk5 q)
    · refine ⟨_,hb,fun N' hN => .inl (h.keep (fun j j1 j2 hc => ?_) ?_)⟩
      · have:=hN j j1 j2;unfold stB at this
        rwa [if_neg omg,if_neg omg] at this
      · right
        have:=hN (1+5 * othS s) omg omg;unfold stB at this;rw [if_pos rfl] at this;refine ve6 ?_;rw [this];exact vk5 dcd
    · refine ⟨_,hb,fun N' hN => ?_⟩;have hrest:∀ j:Nat,1≤j→j<11→(j<1+5 * othS s∨1+5 * othS s+5≤j)→N' j=N j:=fun j j1 j2 hc => by
        have:=hN j j1 j2;unfold stC at this;rw [if_neg omg] at this;rw [this];exact hout j omg omg
      have:=hN (1+5 * othS s) omg omg;unfold stC at this;rw [if_pos rfl] at this;rcases this with q | q
      · right
        refine h.next hrest (slotN_of hL omg q (fun i hi => ?_));have:=hN (1+5 * othS s+(1+i)) omg omg;unfold stC at this;rw [if_neg omg] at this;rw [this];exact hlaid i hi
      · left
        exact h.keep hrest (.inr (ve6 (not_head127 q)))
end
structure KpN (p:PV) (hash:Int) (N:Secs) (s:SlV3) (n:Nat) (last:Int) (is:List Int):Prop where
  sl:SlN N s n
  none_:n=0→last=-1∧is=[]
  some_:0<n→s.load=stBs ⟨last,hash,is⟩∧ql2 p ⟨last,hash,is⟩=true∧vs7 ⟨last,hash,is⟩
section
variable {p:PV} {hash:Int} {D:qa1} {N N':Secs} {P:Says} {s:SlV3} {n:Nat} {last:Int} {is:List Int}
theorem KpN.congr (h:KpN p hash N s n last is) (hs:∀ j:Nat,1≤j→j<11→N' j=N j):KpN p hash N' s n last is:=⟨h.sl.congr hs,h.none_,h.some_⟩
theorem KpN.open_ (h:KpN p hash N s n last is) (hr:Rest D N) (hm:11≤D.many) (hv:qf0 p=true):∃ o,qj1 D 1 5 6 5 p hash=({ D with ops:=o },kOf hash s n last is,0):=by
  obtain ⟨o,e⟩:=h.sl.open_ hr hm;refine ⟨o,?_⟩;unfold qj1;rw [e,if_neg (by rw [hv];simp),if_neg smp];simp only;rcases Nat.eq_zero_or_pos n with q | q
  · obtain ⟨e1,_⟩:=h.sl.none_ q;subst e1 q
    rfl
  · obtain ⟨e1,_⟩:=h.sl.some_ q;obtain ⟨l1,l2,l3⟩:=h.some_ q;have hl:vk6 s=(s.load,s.number,true):=by unfold vk6;rw [if_neg (by rcases e1 with e | e <;> omega)]
    rw [hl,if_neg smp];simp only;rw [l1,kread_stBs l3 l2,if_neg smp,if_neg smp];unfold kOf;rw [if_neg omg,decide_eq_true q]
theorem KpN.saved (h:KpN p hash N s n last is) (hr:Rest D N) (hm:11≤D.many) (hP:∀ s:Nat,s<D.many→¬ (1≤s∧s<11)→P s (N s)) (hn:n<9223372036854775806) (k:KpV) (hk:k.s=s) {tick:Int} {cells:List Int} (hsa:vs7 ⟨tick,hash,cells⟩) (hf:ql2 p ⟨tick,hash,cells⟩=true) :
    (qk4 D 1 5 6 5 p hash k tick cells).1.many=D.many ∧
    (((qk4 D 1 5 6 5 p hash k tick cells).2.2=0∧(D.cut=-1→(qk4 D 1 5 6 5 p hash k tick cells).1.cut=-1) ∧
      ∃ N' s',(qk4 D 1 5 6 5 p hash k tick cells).2.1=kOf hash s' (n+1) tick cells∧Rest (qk4 D 1 5 6 5 p hash k tick cells).1 N'∧KpN p hash N' s' (n+1) tick cells∧∀ j,¬ (1≤j∧j<11)→N' j=N j) ∨
    ((qk4 D 1 5 6 5 p hash k tick cells).2.2=50∧(qk4 D 1 5 6 5 p hash k tick cells).1.off=true∧D.cut≠-1 ∧
      ∃ Q:Says,Safe (qk4 D 1 5 6 5 p hash k tick cells).1 (mixP Q P)∧∀ N':Secs,(∀ j,1≤j→j<11→Q j (N' j))→KpN p hash N' s n last is∨∃ s',KpN p hash N' s' (n+1) tick cells)):=by
  subst hk;have hun:qk4 D 1 5 6 5 p hash k tick cells=if ql2 p ⟨tick,hash,cells⟩=false then (D,k,41)
    else if (qf6 D 1 5 6 5 k.s (stBs ⟨tick,hash,cells⟩)).2.2≠0 then ((qf6 D 1 5 6 5 k.s (stBs ⟨tick,hash,cells⟩)).1,{ k with s:=(qf6 D 1 5 6 5 k.s (stBs ⟨tick,hash,cells⟩)).2.1 },(qf6 D 1 5 6 5 k.s (stBs ⟨tick,hash,cells⟩)).2.2)
    else ((qf6 D 1 5 6 5 k.s (stBs ⟨tick,hash,cells⟩)).1,⟨(qf6 D 1 5 6 5 k.s (stBs ⟨tick,hash,cells⟩)).2.1,⟨tick,hash,cells⟩,true⟩,0):=rfl
  rw [if_neg (by rw [hf];simp)] at hun;rw [hun];have hnew:∀ N' s',SlN N' s' (n+1)→s'.load=stBs ⟨tick,hash,cells⟩→KpN p hash N' s' (n+1) tick cells:=fun N' s' h1 h2 => ⟨h1,fun e => absurd e omg,fun _ => ⟨h2,hf,hsa⟩⟩
  obtain ⟨a1,a2⟩:=h.sl.save hr hm hP hn (fits_len hf);rcases a2 with ⟨e1,e2,e3,N',r1,r2,r3⟩ | ⟨e1,e2,e3,e4,Q,r1,r2⟩
  · rw [if_neg (by rw [e1];simp)];refine ⟨a1,.inl ⟨rfl,e3,N',_,?_,r1,hnew N' _ r2 rfl,r3⟩⟩
    show (⟨(qf6 D 1 5 6 5 k.s (stBs ⟨tick,hash,cells⟩)).2.1,⟨tick,hash,cells⟩,true⟩:KpV)=_
    rw [e2];unfold kOf;rw [if_neg omg,decide_eq_true omg]
  · rw [if_pos (by rw [e1];simp)];refine ⟨a1,.inr ⟨e1,e3,e4,Q,r1,fun N' hN => ?_⟩⟩;rcases r2 N' hN with q | q
    · exact .inl ⟨q,h.none_,h.some_⟩
    · exact .inr ⟨_,hnew N' _ q rfl⟩
end
end Go.Proofs.YtmeebofhlilcmaaGreat
