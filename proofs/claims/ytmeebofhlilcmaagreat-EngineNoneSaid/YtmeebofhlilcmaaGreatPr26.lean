/- Parts: PlainVm. -/
import Derived.Test.YtmeebofhlilcmaaGreatPr02
import Derived.Test.YtmeebofhlilcmaaGreatPr24
import Derived.Test.YtmeebofhlilcmaaGreatPr21
import Derived.Test.YtmeebofhlilcmaaGreatPr25
import Derived.Test.YtmeebofhlilcmaaGreatPr05
set_option linter.unusedVariables false
set_option linter.unusedSimpArgs false
set_option maxRecDepth 100000
set_option maxHeartbeats 40000000
namespace Go.Proofs.YtmeebofhlilcmaaGreat
open Go.RowKit
structure VS where
  regs:List Int
  next:List Int
  out:List Int
  steps:Nat
def atK (l:List Int) (n:Int):Int:=qa6 l n.toNat
def putK (l:List Int) (n v:Int):List Int:=l.set n.toNat v
def giveK (cells ins:List Int) (x:Ins) (r:List Int):Int :=
  if x.op=3 then atK r x.b
  else if x.op=5∨x.op=6 then oneK x.op (atK r x.b)
  else if x.op=27 then (if atK r x.b≠0 then atK r x.c else atK r x.k)
  else if x.op=21 then atK cells x.k
  else if x.op=28 then atK ins x.k
  else if 7≤x.op∧x.op≤20 then doK x.op (atK r x.b) (atK r x.c)
  else x.k
def vm7 (x:Ins) (r:List Int):Nat:=if (x.op=30∧atK r x.a=0)∨(x.op=31∧atK r x.a≠0) then x.k.toNat else 0
def qm7 (cells ins:List Int) (x:Ins) (s:VS):VS :=
  if x.op=29 then { s with out:=putK s.out x.k (atK s.regs x.a),steps:=s.steps+1 }
  else if x.op=32 then { s with next:=putK s.next x.k (atK s.regs x.a),steps:=s.steps+1 }
  else if x.op=30∨x.op=31 then { s with steps:=s.steps+1 }
  else { s with regs:=putK s.regs x.a (giveK cells ins x s.regs),steps:=s.steps+1 }
def runV (p:PV) (cells ins:List Int):Nat→Nat→VS→VS
  | 0,_,s => s
  | n+1,i,s => if i<p.code.length then runV p cells ins n (i+1+vm7 (qa0 p.code i) s.regs) (qm7 cells ins (qa0 p.code i) s) else s
def goV (p:PV) (cells ins:List Int) (i:Nat) (s:VS):VS:=runV p cells ins p.code.length i s
theorem runV_more (p:PV) (cells ins:List Int):∀ (n m i:Nat) (s:VS),p.code.length≤n+i→p.code.length≤m+i→runV p cells ins n i s=runV p cells ins m i s:=by
  intro n
  induction n with
  | zero =>
    intro m i s h1 h2
    cases m with
    | zero => rfl
    | succ m => unfold runV;rw [if_neg omg]
  | succ n ih =>
    intro m i s h1 h2
    cases m with
    | zero => unfold runV;rw [if_neg omg]
    | succ m =>
      unfold runV
      by_cases hi:i<p.code.length
      · rw [if_pos hi,if_pos hi];exact ih m _ _ omg omg
      · rw [if_neg hi,if_neg hi]
theorem goV_step {p:PV} {cells ins:List Int} {i:Nat} {s:VS} (hi:i<p.code.length):goV p cells ins i s=goV p cells ins (i+1+vm7 (qa0 p.code i) s.regs) (qm7 cells ins (qa0 p.code i) s):=by
  unfold goV;rw [runV_more p cells ins p.code.length (p.code.length+1) i s omg omg]
  show (if i<p.code.length then _ else s)=_
  rw [if_pos hi]
theorem goV_end {p:PV} {cells ins:List Int} {i:Nat} {s:VS} (hi:p.code.length≤i):goV p cells ins i s=s:=by
  unfold goV;rw [runV_more p cells ins p.code.length 0 i s omg omg]
  rfl
def qm4 (p:PV) (cells:List Int):Bool:=decide (cells.length=p.cells.length) && allK p.cells.length (fun i => okAt (qh4 p.cells i).1 (qa6 cells i))
def ql7 (p:PV) (cells:List Int):VS:=⟨List.replicate p.regs.toNat 0,cells,List.replicate p.outs.length 0,0⟩
def qu9 (p:PV) (cells ins:List Int):List Int × List Int × Nat × Int :=
  if (qm4 p cells && qh6 p.ins ins)=true then ((goV p cells ins 0 (ql7 p cells)).next,(goV p cells ins 0 (ql7 p cells)).out,(goV p cells ins 0 (ql7 p cells)).steps,0) else ([],[],0,41)
def qn0 (p:PV):List Int:=p.cells.map (·.2)
def ve8 (l:List (List Int)) (i:Nat):List Int:=l.getD i []
def qg1 (p:PV) (rows:List (List Int)):Nat→List Int
  | 0 => qn0 p
  | t+1 => (qu9 p (qg1 p rows t) (ve8 rows t)).1
def qo4 (p:PV) (rows:List (List Int)) (t:Nat):List Int:=(qu9 p (qg1 p rows t) (ve8 rows t)).2.1
def qi8 (p:PV) (rows:List (List Int)) (n:Nat):List (List Int):=(List.range n).map (qo4 p rows)
theorem outsV_succ (p:PV) (rows:List (List Int)) (n:Nat):qi8 p rows n ++ [qo4 p rows n]=qi8 p rows (n+1):=by unfold qi8;rw [List.range_succ,List.map_append];rfl
structure InsSafe (p:PV) (i:Nat) (x:Ins):Prop where
  a0:0≤x.a
  a1:x.a<p.regs
  b:x.op=3∨(5≤x.op∧x.op≤20)∨x.op=27→0≤x.b∧x.b<p.regs
  c:(7≤x.op∧x.op≤20)∨x.op=27→0≤x.c∧x.c<p.regs
  k27:x.op=27→(0≤x.k∧x.k<p.regs)∧x.a≠x.b∧x.a≠x.c
  k21:x.op=21∨x.op=32→0≤x.k∧x.k<(p.cells.length:Int)
  k28:x.op=28→0≤x.k∧x.k<(p.ins.length:Int)
  k29:x.op=29→0≤x.k∧x.k<(p.outs.length:Int)
  k30:x.op=30∨x.op=31→0≤x.k∧x.k≤(p.code.length:Int) - 1 - (i:Int)
  ab:x.op=3∨(5≤x.op∧x.op≤20)∨x.op=27→x.a≠x.b
  ac:(7≤x.op∧x.op≤20)∨x.op=27→x.a≠x.c
  ak:x.op=27→x.a≠x.k
  op:x.op=1∨x.op=2∨x.op=3∨(5≤x.op∧x.op≤20)∨x.op=21∨x.op=27∨x.op=28∨x.op=29∨x.op=30∨x.op=31∨x.op=32
theorem qo5 {p:PV} {i:Nat} {r:Int} (h:qb3 p i r≠0):0≤r∧r<p.regs∧qm8 p i r=qb3 p i r:=by
  unfold qb3 at h ⊢
  by_cases q:r<0∨p.regs≤r
  · rw [if_pos q] at h;exact absurd rfl h
  · rw [if_neg q];exact ⟨omg,omg,rfl⟩
section
variable {p:PV} {i:Nat}
theorem vq9 (h:okR p i=true):qh9 p i (qa0 p.code i)=true∧(29≤(qa0 p.code i).op∨((qa0 p.code i).a<p.regs∧qm8 p i (qa0 p.code i).a=0∧(qg9 p (qb3 p i) (qa0 p.code i)=1∨qg9 p (qb3 p i) (qa0 p.code i)=2))):=by
  unfold okR at h;simp only [Bool.and_eq_true,Bool.or_eq_true,decide_eq_true_eq] at h;exact ⟨h.1,h.2.1⟩
theorem qm0 (h:qf0 p=true):mayB p=true∧∀ i,i<p.code.length→okR p i=true:=by
  rw [verify_is] at h;unfold rightR at h;simp only [Bool.and_eq_true,List.all_eq_true,List.mem_range] at h;exact ⟨h.1,fun i hi => h.2.1 i hi⟩
theorem vq2 (op:Int) (h:5≤op∧op≤20):qy9 op=true:=decide_eq_true h
theorem qi2 {op:Int} (h:op<5∨20<op):qy9 op=false:=decide_eq_false omg
theorem safe_of (h:qf0 p=true) (hi:i<p.code.length):InsSafe p i (qa0 p.code i):=by
  obtain ⟨hm,hok⟩:=qm0 h;obtain ⟨m1,m2,m3,m4,m5,m6,m7,m8⟩:=qd6.1 hm;have hio:InsOk (qa0 p.code i):=of_decide_eq_true (m8 i hi);obtain ⟨o1,o2,o3,o4,o5,o6,o7⟩:=hio;obtain ⟨t,g⟩:=vq9 (hok i hi);have hop:(qa0 p.code i).op=1∨(qa0 p.code i).op=2∨(qa0 p.code i).op=3∨(5≤(qa0 p.code i).op∧(qa0 p.code i).op≤20)∨(qa0 p.code i).op=21∨(qa0 p.code i).op=27∨(qa0 p.code i).op=28∨(qa0 p.code i).op=29∨(qa0 p.code i).op=30∨(qa0 p.code i).op=31∨(qa0 p.code i).op=32:=by
    rcases vi4 (qa0 p.code i).op with q | q | q | q | q
    · omega
    · omega
    · omega
    · omega
    · exact absurd (cls_0 q) o1
  have outT:∀ k:Int,0≤k→k<(p.outs.length:Int)→kAt p.outs k≠0:=fun k h0 h1 e => by
    have:=(qe7.1 m2).1 k.toNat omg;unfold kAt at e;rw [if_neg omg] at e;unfold qa6 at this;omega
  have cellT:∀ k:Int,0≤k→k<(p.cells.length:Int)→(qh4 p.cells k.toNat).1≠0:=fun k h0 h1 e => by
    have:=m7 k.toNat omg;unfold qy7 at this;rw [e] at this;simp at this
  generalize qa0 p.code i=x at *;have a1:x.a<p.regs:=by
    rcases g with g | g
    · unfold qh9 at t;rw [qi2 omg,if_neg smp,if_neg omg,if_neg omg,if_neg omg] at t
      by_cases q:x.op=29
      · rw [if_pos q] at t;simp only [Bool.and_eq_true,decide_eq_true_eq] at t;have:=outT x.k t.1 t.2.1;exact (qo5 (by rw [t.2.2];exact this)).2.1
      · rw [if_neg q] at t
        by_cases q2:x.op=32
        · rw [if_pos q2] at t;simp only [Bool.and_eq_true,decide_eq_true_eq] at t;have:=cellT x.k t.1 t.2.1;exact (qo5 (by rw [t.2.2];exact this)).2.1
        · rw [if_neg q2,if_pos omg] at t;simp only [Bool.and_eq_true,decide_eq_true_eq] at t;exact (qo5 (by rw [t.2.2];decide)).2.1
    · exact g.1
  have tb:x.op=3∨(5≤x.op∧x.op≤20)∨x.op=27→qb3 p i x.b≠0:=fun q => by
    unfold qh9 at t;rcases q with q | q | q
    · rw [qi2 omg,if_neg smp,if_neg omg,if_pos q] at t;exact of_decide_eq_true t
    · rw [vq2 _ q,if_pos rfl] at t;simp only [Bool.and_eq_true,decide_eq_true_eq] at t;exact t.1
    · rw [qi2 omg,if_neg smp,if_neg omg,if_neg omg,if_pos q] at t;simp only [Bool.and_eq_true,decide_eq_true_eq] at t;rw [t.1];decide
  have tc:(7≤x.op∧x.op≤20)∨x.op=27→qb3 p i x.c≠0:=fun q => by
    unfold qh9 at t;rcases q with q | q
    · rw [vq2 _ omg,if_pos rfl] at t;simp only [Bool.and_eq_true,Bool.or_eq_true,decide_eq_true_eq] at t;rcases t.2.2 with e | e
      · omega
      · rw [e];exact t.1
    · rw [qi2 omg,if_neg smp,if_neg omg,if_neg omg,if_pos q] at t;simp only [Bool.and_eq_true,decide_eq_true_eq] at t;exact t.2.1
  have tkk:x.op=27→qb3 p i x.k≠0:=fun q => by
    unfold qh9 at t;rw [qi2 omg,if_neg smp,if_neg omg,if_neg omg,if_pos q] at t;simp only [Bool.and_eq_true,decide_eq_true_eq] at t;rw [t.2.2];exact t.2.1
  have nea:x.op<29→∀ r,qb3 p i r≠0→x.a≠r:=fun q r hr e => by
    have g0:qm8 p i x.a=0:=by
      rcases g with g | g
      · omega
      · exact g.2.1
    rw [e,(qo5 hr).2.2] at g0;exact hr g0
  refine ⟨o2,a1,fun q => ⟨(qo5 (tb q)).1,(qo5 (tb q)).2.1⟩,fun q => ⟨(qo5 (tc q)).1,(qo5 (tc q)).2.1⟩,fun q => ⟨⟨(qo5 (tkk q)).1,(qo5 (tkk q)).2.1⟩,nea omg _ (tb (.inr (.inr q))),nea omg _ (tc (.inr q))⟩,fun q => ?_,fun q => ?_,fun q => ?_,fun q => ?_,fun q => nea omg _ (tb q),fun q => nea omg _ (tc q),fun q => nea omg _ (tkk q),hop⟩
  · rcases q with q | q
    · rcases g with g | g
      · omega
      · refine Decidable.byContradiction fun hc => ?_
        have:qg9 p (qb3 p i) x=0:=by
          unfold qg9;rw [qi2 omg,if_neg smp,if_neg omg,if_neg omg,if_neg omg,if_neg omg,if_neg omg]
        omega
    · unfold qh9 at t;rw [qi2 omg,if_neg smp,if_neg omg,if_neg omg,if_neg omg,if_neg omg,if_pos q] at t;simp only [Bool.and_eq_true,decide_eq_true_eq] at t;exact ⟨t.1,t.2.1⟩
  · rcases g with g | g
    · omega
    · refine Decidable.byContradiction fun hc => ?_
      have:qg9 p (qb3 p i) x=0:=by
        unfold qg9;rw [qi2 omg,if_neg smp,if_neg omg,if_neg omg,if_neg omg,if_neg omg,if_neg omg]
      omega
  · unfold qh9 at t;rw [qi2 omg,if_neg smp,if_neg omg,if_neg omg,if_neg omg,if_pos q] at t;simp only [Bool.and_eq_true,decide_eq_true_eq] at t;exact ⟨t.1,t.2.1⟩
  · unfold qh9 at t;rw [qi2 omg,if_neg smp,if_neg omg,if_neg omg,if_neg omg,if_neg omg,if_neg omg,if_pos q] at t;simp only [Bool.and_eq_true,decide_eq_true_eq] at t;exact ⟨t.1,t.2.1⟩
end
structure VOk (p:PV) (s:VS):Prop where
  rl:(s.regs.length:Int)=p.regs
  nl:s.next.length=p.cells.length
  ol:s.out.length=p.outs.length
  rr:∀ z ∈ s.regs,In64 z
  nr:∀ z ∈ s.next,In64 z
  or_:∀ z ∈ s.out,In64 z
theorem vm1 {l:List Int} (h:∀ z ∈ l,In64 z) (n:Int):In64 (atK l n):=by
  unfold atK qa6;rw [List.getD_eq_getElem?_getD]
  by_cases q:n.toNat<l.length
  · rw [List.getElem?_eq_getElem q];exact h _ (List.getElem_mem q)
  · rw [List.getElem?_eq_none omg];unfold In64;simp
theorem putK_in {l:List Int} (h:∀ z ∈ l,In64 z) (n:Int) {v:Int} (hv:In64 v):∀ z ∈ putK l n v,In64 z:=fun z hz => by
  rcases List.mem_or_eq_of_mem_set hz with q | q
  · exact h z q
  · rw [q];exact hv
theorem giveK_in {cells ins:List Int} {x:Ins} {r:List Int} (hr:∀ z ∈ r,In64 z) (hc:∀ z ∈ cells,In64 z) (hi:∀ z ∈ ins,In64 z) (hk:In64 x.k):In64 (giveK cells ins x r):=by
  unfold giveK
  repeat' (with_reducible refine in_ite ?_ ?_)
  all_goals first | exact vm1 hr _ | exact vm1 hc _ | exact vm1 hi _ | exact oneK_in _ _ | exact doK_in (vm1 hr _) | exact hk
theorem VOk.exec {p:PV} {s:VS} (h:VOk p s) {cells ins:List Int} {x:Ins} (hc:∀ z ∈ cells,In64 z) (hi:∀ z ∈ ins,In64 z) (hk:In64 x.k):VOk p (qm7 cells ins x s):=by
  unfold qm7
  split
  · exact ⟨h.rl,h.nl,by simp [putK,h.ol],h.rr,h.nr,putK_in h.or_ _ (vm1 h.rr _)⟩
  · split
    · exact ⟨h.rl,by simp [putK,h.nl],h.ol,h.rr,putK_in h.nr _ (vm1 h.rr _),h.or_⟩
    · split
      · exact ⟨h.rl,h.nl,h.ol,h.rr,h.nr,h.or_⟩
      · exact ⟨by simp [putK,h.rl],h.nl,h.ol,putK_in h.rr _ (giveK_in h.rr hc hi hk),h.nr,h.or_⟩
theorem VOk.start {p:PV} {cells:List Int} (hr:0≤p.regs) (hl:cells.length=p.cells.length) (hc:∀ z ∈ cells,In64 z):VOk p (ql7 p cells):=by
  have hz:∀ n,∀ z ∈ List.replicate n (0:Int),In64 z:=fun n z hz => by rw [(List.mem_replicate.1 hz).2];unfold In64;omega
  exact ⟨by simp [ql7];omega,hl,by simp [ql7],hz _,hc,hz _⟩
structure VTy (p:PV) (s:VS):Prop where
  r:∀ r:Int,0≤r→qm8 p p.code.length r=2→atK s.regs r=0∨atK s.regs r=1
  n:∀ k:Int,0≤k→(qh4 p.cells k.toNat).1=2→atK s.next k=0∨atK s.next k=1
  o:∀ k:Int,0≤k→kAt p.outs k=2→atK s.out k=0∨atK s.out k=1
theorem atK_put {l:List Int} {n k v:Int} (h0:0≤n) (hk:0≤k) (h1:n<(l.length:Int)):atK (putK l n v) k=if k=n then v else atK l k:=by
  unfold atK putK qa6;rw [List.getD_eq_getElem?_getD,List.getD_eq_getElem?_getD,List.getElem?_set]
  by_cases h:k=n
  · subst h;rw [if_pos rfl,if_pos omg,if_pos rfl];rfl
  · rw [if_neg omg,if_neg h]
theorem kind_later {p:PV} (hok:∀ i,i<p.code.length→okR p i=true) {i:Nat} {r:Int} (h:qm8 p i r≠0):∀ m,i+m≤p.code.length→qm8 p (i+m) r=qm8 p i r:=by
  intro m
  induction m with
  | zero => intro _;rfl
  | succ m ih =>
    intro hm;have e:=ih omg;rw [show i+(m+1)=(i+m)+1 by omega,ql0]
    by_cases q:29≤(qa0 p.code (i+m)).op∨(qa0 p.code (i+m)).a≠r
    · rw [if_pos q];exact e
    · obtain ⟨_,g⟩:=vq9 (hok (i+m) omg);rcases g with g | g
      · exact absurd (.inl g) q
      · have e3:(qa0 p.code (i+m)).a=r:=omg;rw [e3,e] at g;exact absurd g.2.1 h
theorem vo2 {p:PV} (hok:∀ i,i<p.code.length→okR p i=true) {i:Nat} (hi:i≤p.code.length) {r:Int} (h:qm8 p i r≠0):qm8 p p.code.length r=qm8 p i r:=by
  have:=kind_later hok h (p.code.length - i) omg;rw [show i+(p.code.length - i)=p.code.length by omega] at this;exact this
theorem taken_final {p:PV} (hok:∀ i,i<p.code.length→okR p i=true) {i:Nat} (hi:i≤p.code.length) {r:Int} (h:qb3 p i r=2):0≤r∧qm8 p p.code.length r=2:=by
  obtain ⟨h0,_,h2⟩:=qo5 (show qb3 p i r≠0 by rw [h];decide);exact ⟨h0,by rw [vo2 hok hi (by rw [h2,h];decide),h2,h]⟩
theorem flagK_01 (b:Bool):qq9 b=0∨qq9 b=1:=by cases b <;> simp [qq9]
theorem ite_01 {c:Prop} [Decidable c] {a b:Int} (h1:a=0∨a=1) (h2:b=0∨b=1):(if c then a else b)=0∨(if c then a else b)=1:=by split <;> assumption
theorem VTy.exec {p:PV} (hv:qf0 p=true) {s:VS} (h:VTy p s) (ho:VOk p s) {cells ins:List Int} {i:Nat} (hi:i<p.code.length)
    (hc:∀ k:Int,0≤k→(qh4 p.cells k.toNat).1=2→atK cells k=0∨atK cells k=1) (hin:∀ k:Int,0≤k→kAt p.ins k=2→atK ins k=0∨atK ins k=1):VTy p (qm7 cells ins (qa0 p.code i) s):=by
  have hs:=safe_of hv hi;obtain ⟨hm,hok⟩:=qm0 hv;obtain ⟨t,g⟩:=vq9 (hok i hi);have hkx:(qa0 p.code i).op<29→qm8 p p.code.length (qa0 p.code i).a=qg9 p (qb3 p i) (qa0 p.code i):=fun q => by
    rcases g with g | g
    · omega
    · have e:qm8 p (i+1) (qa0 p.code i).a=qg9 p (qb3 p i) (qa0 p.code i):=by
        rw [ql0,if_neg omg,if_neg (by rw [g.2.1];decide)]
      rw [vo2 hok (i:=i+1) omg (by rw [e];omega),e]
  have tf:=fun {r:Int} (q:qb3 p i r=2) => taken_final hok (Nat.le_of_lt hi) q
  generalize qa0 p.code i=x at *;unfold qm7
  split
  · rename_i q;obtain ⟨k0,k1⟩:=hs.k29 q;refine ⟨h.r,h.n,fun k hk e => ?_⟩
    show atK (putK s.out x.k _) k=0∨atK (putK s.out x.k _) k=1
    rw [atK_put k0 hk (by rw [ho.ol];exact k1)]
    by_cases q2:k=x.k
    · rw [if_pos q2];unfold qh9 at t;rw [qi2 omg,if_neg smp,if_neg omg,if_neg omg,if_neg omg,if_pos q] at t;simp only [Bool.and_eq_true,decide_eq_true_eq] at t;obtain ⟨e0,e1⟩:=tf (t.2.2.trans (by rw [← q2];exact e));exact h.r _ e0 e1
    · rw [if_neg q2];exact h.o k hk e
  · split
    · rename_i q;obtain ⟨k0,k1⟩:=hs.k21 (.inr q);refine ⟨h.r,fun k hk e => ?_,h.o⟩
      show atK (putK s.next x.k _) k=0∨atK (putK s.next x.k _) k=1
      rw [atK_put k0 hk (by rw [ho.nl];exact k1)]
      by_cases q2:k=x.k
      · rw [if_pos q2];unfold qh9 at t;rw [qi2 omg,if_neg smp,if_neg omg,if_neg omg,if_neg omg,if_neg omg,if_pos q] at t;simp only [Bool.and_eq_true,decide_eq_true_eq] at t;obtain ⟨e0,e1⟩:=tf (t.2.2.trans (by rw [← q2];exact e));exact h.r _ e0 e1
      · rw [if_neg q2];exact h.n k hk e
    · split
      · exact ⟨h.r,h.n,h.o⟩
      · rename_i q29 q32 q30;have hop:=hs.op;refine ⟨fun r hr e => ?_,h.n,h.o⟩
        show atK (putK s.regs x.a _) r=0∨atK (putK s.regs x.a _) r=1
        rw [atK_put hs.a0 hr (by rw [ho.rl];exact hs.a1)]
        by_cases q2:r=x.a
        · rw [if_pos q2];rw [q2,hkx omg] at e;unfold qg9 at e;unfold qh9 at t;unfold giveK
          by_cases c3:x.op=3
          · rw [qi2 omg,if_neg smp,if_neg omg,if_pos c3] at e;rw [if_pos c3];obtain ⟨e0,e1⟩:=tf e;exact h.r _ e0 e1
          · rw [if_neg c3]
            by_cases c5:x.op=5∨x.op=6
            · rw [if_pos c5];rw [vq2 _ omg,if_pos rfl] at e;rcases c5 with c5 | c5
              · rw [c5] at e;exact absurd e dcd
              · unfold oneK;rw [if_neg omg,if_pos c5];exact flagK_01 _
            · rw [if_neg c5]
              by_cases c27:x.op=27
              · rw [if_pos c27];rw [qi2 omg,if_neg smp,if_neg omg,if_neg omg,if_pos c27] at t;rw [qi2 omg,if_neg smp,if_neg omg,if_neg omg,if_pos c27] at e;simp only [Bool.and_eq_true,decide_eq_true_eq] at t;obtain ⟨e0,e1⟩:=tf e;obtain ⟨f0,f1⟩:=tf (t.2.2.trans e)
                split
                · exact h.r _ e0 e1
                · exact h.r _ f0 f1
              · rw [if_neg c27]
                by_cases c21:x.op=21
                · obtain ⟨k0,k1⟩:=hs.k21 (.inl c21);rw [qi2 omg,if_neg smp,if_neg omg,if_neg omg,if_neg omg,if_pos ⟨c21,k0,k1⟩] at e;rw [if_pos c21];exact hc _ k0 e
                · rw [if_neg c21]
                  by_cases c28:x.op=28
                  · obtain ⟨k0,k1⟩:=hs.k28 c28;rw [qi2 omg,if_neg smp,if_neg omg,if_neg omg,if_neg omg,if_neg omg,if_pos ⟨c28,k0,k1⟩] at e;rw [if_pos c28];exact hin _ k0 e
                  · rw [if_neg c28]
                    by_cases c7:7≤x.op∧x.op≤20
                    · rw [if_pos c7];rw [vq2 _ omg,if_pos rfl] at e;have c12:12≤x.op:=by unfold qn6 at e;split at e <;> omega
                      unfold doK;rw [if_neg omg,if_neg omg,if_neg omg,if_neg omg,if_neg omg]
                      repeat' (with_reducible refine ite_01 ?_ ?_)
                      all_goals first | exact flagK_01 _ | exact .inl rfl
                    · rw [if_neg c7];rw [qi2 omg,if_neg smp,if_pos omg] at e;rw [qi2 omg,if_neg smp,if_pos e] at t;simp only [Bool.or_eq_true,decide_eq_true_eq] at t;exact t
        · rw [if_neg q2];exact h.r r hr e
theorem runV_ok {p:PV} (hv:qf0 p=true) (hw:qk7 p) {cells ins:List Int} (hc:∀ k:Int,0≤k→(qh4 p.cells k.toNat).1=2→atK cells k=0∨atK cells k=1) (hin:∀ k:Int,0≤k→kAt p.ins k=2→atK ins k=0∨atK ins k=1)
    (hc64:∀ z ∈ cells,In64 z) (hi64:∀ z ∈ ins,In64 z):∀ (n i:Nat) (s:VS),VOk p s→VTy p s→VOk p (runV p cells ins n i s)∧VTy p (runV p cells ins n i s):=by
  intro n
  induction n with
  | zero => intro i s h1 h2;exact ⟨h1,h2⟩
  | succ n ih =>
    intro i s h1 h2;unfold runV
    split
    · rename_i hi;have hk:In64 (qa0 p.code i).k:=by
        have e:=List.getElem?_eq_getElem hi;have:=hw.code _ (List.getElem_mem hi);rw [qw6 e];exact ⟨this.2.2.2.1,this.2.2.2.2⟩
      exact ih _ _ (h1.exec hc64 hi64 hk) (h2.exec hv h1 hi hc hin)
    · exact ⟨h1,h2⟩
theorem qi3 {p:PV} {cells:List Int}:qm4 p cells=true ↔ cells.length=p.cells.length∧∀ i,i<p.cells.length→okAt (qh4 p.cells i).1 (qa6 cells i)=true:=by
  unfold qm4;simp only [Bool.and_eq_true,qr1,decide_eq_true_eq]
theorem ve3 {p:PV} (hv:qf0 p=true) (hw:qk7 p) {cells ins:List Int} (h1:qm4 p cells=true) (h2:qh6 p.ins ins=true) (hc64:∀ z ∈ cells,In64 z) (hi64:∀ z ∈ ins,In64 z) :
    (qu9 p cells ins).2.2.2=0∧qm4 p (qu9 p cells ins).1=true∧qh6 p.outs (qu9 p cells ins).2.1=true∧(∀ z ∈ (qu9 p cells ins).1,In64 z)∧(∀ z ∈ (qu9 p cells ins).2.1,In64 z):=by
  have hm:=(qm0 hv).1;obtain ⟨m1,m2,m3,m4,m5,m6,m7,m8⟩:=qd6.1 hm;obtain ⟨c1,c2⟩:=qi3.1 h1;obtain ⟨f1,f2,f3⟩:=qp6.1 h2;have hc:∀ k:Int,0≤k→(qh4 p.cells k.toNat).1=2→atK cells k=0∨atK cells k=1:=fun k h0 e => by
    by_cases q:k.toNat<p.cells.length
    · exact qt5.1 (c2 k.toNat q) e
    · left;unfold atK qa6;rw [List.getD_eq_getElem?_getD,List.getElem?_eq_none omg];rfl
  have hin:∀ k:Int,0≤k→kAt p.ins k=2→atK ins k=0∨atK ins k=1:=fun k h0 e => by
    unfold kAt at e;rw [if_neg omg] at e
    by_cases q:k.toNat<p.ins.length
    · exact f3 k.toNat q e
    · left;unfold atK qa6;rw [List.getD_eq_getElem?_getD,List.getElem?_eq_none omg];rfl
  have z0:∀ (n:Nat) (k:Int),atK (List.replicate n 0) k=0:=fun n k => by
    unfold atK qa6;rw [List.getD_eq_getElem?_getD,List.getElem?_replicate]
    split <;> rfl
  have ht:VTy p (ql7 p cells):=⟨fun r _ _ => .inl (z0 _ _),fun k h0 e => hc k h0 e,fun k _ _ => .inl (z0 _ _)⟩;obtain ⟨r1,r2⟩:=runV_ok hv hw hc hin hc64 hi64 p.code.length 0 (ql7 p cells) (VOk.start m3 c1 hc64) ht;unfold qu9;rw [if_pos (by rw [h1,h2];rfl)];refine ⟨rfl,qi3.2 ⟨r1.nl,fun i hi => qt5.2 (fun e => ?_)⟩,qp6.2 ⟨m2,r1.ol,fun i hi e => ?_⟩,r1.nr,r1.or_⟩
  · have:=r2.n (i:Int) omg (by rw [Int.toNat_natCast];exact e);unfold atK at this;rw [Int.toNat_natCast] at this;exact this
  · have:=r2.o (i:Int) omg (by unfold kAt;rw [if_neg omg,Int.toNat_natCast];exact e);unfold atK at this;rw [Int.toNat_natCast] at this;exact this
theorem vo5 {p:PV} (hm:mayB p=true) (hw:qk7 p):qm4 p (qn0 p)=true∧∀ z ∈ qn0 p,In64 z:=by
  obtain ⟨m1,m2,m3,m4,m5,m6,m7,m8⟩:=qd6.1 hm;refine ⟨qi3.2 ⟨by simp [qn0],fun i hi => qt5.2 (fun e => ?_)⟩,fun z hz => ?_⟩
  · have h:=m7 i hi;have e2:qa6 (qn0 p) i=(qh4 p.cells i).2:=by
      unfold qn0 qa6 qh4;rw [List.getD_eq_getElem?_getD,List.getD_eq_getElem?_getD,List.getElem?_map,List.getElem?_eq_getElem hi];rfl
    rw [e2];unfold qy7 at h;rw [e] at h;simpa using h
  · unfold qn0 at hz;rw [List.mem_map] at hz;obtain ⟨x,hx,rfl⟩:=hz;exact hw.cells x hx
end Go.Proofs.YtmeebofhlilcmaaGreat
