/- Parts: PlainTurn, PlainJrn, PlainCrash. -/
import Derived.Test.YtmeebofhlilcmaaGreatPr19
import Derived.Test.YtmeebofhlilcmaaGreatPr18
import Derived.Test.YtmeebofhlilcmaaGreatPr02
set_option linter.unusedVariables false
set_option linter.unusedSimpArgs false
set_option maxRecDepth 100000
set_option maxHeartbeats 40000000
namespace Go.Proofs.YtmeebofhlilcmaaGreat
open Go.RowKit
theorem va1 (load:List UInt8):(qm3 load).length=12:=by unfold qm3;rw [List.length_append,qq3,sumL_len]
def recN (now:List UInt8) (f:Nat) (kind:Int) (n:Nat):Prop:=recB (qf1 now ((f+n:Nat):Int)) kind n=true
structure ScanIs (now:List UInt8) (f:Nat) (kind:Int) (k:Nat) (s:Bool × Nat × List Int):Prop where
  yes:s.1=true→s.2.1=k
  no:s.1=false→s.2.1<k∧¬ recN now f kind s.2.1
  recs:∀ n,n<s.2.1→recN now f kind n
  le:s.2.1≤k
  dirty:∀ x ∈ s.2.2,∃ n:Nat,x=(n:Int)∧s.2.1≤n∧n<k
  all:∀ n:Nat,s.2.1≤n→n<k→qf1 now ((f+n:Nat):Int)≠qa3→(n:Int) ∈ s.2.2
theorem scan_is (now:List UInt8) (f:Nat) (kind:Int):∀ k,ScanIs now f kind k (qe8 now f kind k):=by
  intro k
  induction k with
  | zero => exact ⟨fun _ => rfl,fun h => (by cases h),fun n h => absurd h (by show ¬ n<0;omega),Nat.le_refl _,fun x h => (by cases h),fun n _ h => absurd h omg⟩
  | succ k ih =>
    unfold qe8;generalize qe8 now f kind k=s at *;obtain ⟨o,nx,dl⟩:=s;obtain ⟨h1,h2,h3,h4,h5,h6⟩:=ih;simp only at h1 h2 h3 h4 h5 h6 ⊢
    split
    · rename_i hc;have:=h1 hc.1;subst this;refine ⟨fun _ => rfl,fun h => (by cases h),fun n hn => ?_,Nat.le_refl _,fun x hx => ?_,fun n hn hk hz => ?_⟩
      · simp only at hn;rcases Nat.lt_or_ge n nx with q | q
        · exact h3 n q
        · have:n=nx:=omg;subst this;exact hc.2
      · obtain ⟨n,e,q1,q2⟩:=h5 x hx;omega
      · simp only at hn;omega
    · rename_i hc;have hlt:nx<k+1:=omg;refine ⟨fun h => (by cases h),fun _ => ⟨hlt,?_⟩,h3,by simp only;omega,fun x hx => ?_,fun n hn hk hz => ?_⟩
      · simp only
        cases o with
        | false => exact (h2 rfl).2
        | true =>
          have:=h1 rfl;subst this;exact fun h => hc ⟨rfl,h⟩
      · simp only at hx
        split at hx
        · obtain ⟨n,e,q1,q2⟩:=h5 x hx;exact ⟨n,e,q1,omg⟩
        · rcases List.mem_append.1 hx with q | q
          · obtain ⟨n,e,q1,q2⟩:=h5 x q;exact ⟨n,e,q1,omg⟩
          · have:x=(k:Int):=by simpa using q
            exact ⟨k,this,by simp only;omega,omg⟩
      · simp only at hn ⊢;rcases Nat.lt_or_ge n k with q | q
        · have:=h6 n hn q hz
          split
          · exact this
          · exact List.mem_append_left _ this
        · have:n=k:=omg;subst this;rw [if_neg hz];exact List.mem_append_right _ smp
theorem secOf_part {l b:List UInt8} {n k many:Nat} (hl:l.length=many * 128) (hb:b.length≤128) (hn:n<many) (hk:k<many):qf1 (splice l (n * 128) b) (k:Int)=if k=n then splice (qf1 l (k:Int)) 0 b else qf1 l (k:Int):=by
  have h1:(qf1 (splice l (n * 128) b) (k:Int)).length=128:=ql9 (s:=many) (by rw [qj6 (by rw [hl];omega),hl]) omg omg;have h2:(qf1 l (k:Int)).length=128:=ql9 (s:=many) hl omg omg
  split
  · rename_i e;subst e;have h3:(splice (qf1 l (k:Int)) 0 b).length=128:=by rw [qj6 omg,h2]
    refine byte_ext omg (fun i hi => ?_);rw [qq0 omg,qi4 (by rw [hl];omega),qi4 omg]
    by_cases q:i<b.length
    · rw [if_pos omg,if_pos omg,Nat.add_sub_cancel_left,Nat.sub_zero]
    · rw [if_neg omg,if_neg omg,qq0 omg]
  · rename_i e;refine byte_ext omg (fun i hi => ?_);rw [qq0 omg,qq0 omg,qi4 (by rw [hl];omega),if_neg omg]
theorem crash_closed {D:qa1} (h:D.Ok) (cs:List UInt8) (P:Nat→List UInt8→Prop) (h0:∀ s,s<D.many→P s (qf1 D.kept (s:Int)))
    (hp:∀ p ∈ D.waits,∀ (S:List UInt8) (c:Nat),c≤128→S.length=128→P p.1 S→P p.1 (splice S 0 (p.2.take c))):∀ s,s<D.many→P s (qf1 (qp3 D cs).kept (s:Int)):=by
  have key:∀ k,k≤D.waits.length→∀ s,s<D.many→P s (qf1 (qr0 D.waits cs (D.kept,D.inuse) k).1 (s:Int)):=by
    intro k
    induction k with
    | zero => intro _ s hs;exact h0 s hs
    | succ k ih =>
      intro hk s hs;obtain ⟨p1,p2⟩:=qw3 h (show k<D.waits.length by omega);have hl:=(vp6 h cs k omg).1;have hmem:qd2 D.waits k ∈ D.waits:=by unfold qd2;rw [List.getD_eq_getElem?_getD,List.getElem?_eq_getElem omg];exact List.getElem_mem _
      show P s (qf1 (splice (qr0 D.waits cs (D.kept,D.inuse) k).1 ((qd2 D.waits k).1 * 128) ((qd2 D.waits k).2.take (min (qa4 cs k) 128))) (s:Int))
      rw [secOf_part hl (by rw [List.length_take];omega) p1 hs]
      split
      · rename_i e;subst e;exact hp _ hmem _ _ omg (ql9 (s:=D.many) hl omg omg) (ih omg _ hs)
      · exact ih omg s hs
  exact key _ (Nat.min_le_left _ _)
structure Fit (D:qa1):Prop where
  ok:D.Ok
  off:D.off=false
  room:D.room=D.many
  now:D.now=(qu2 D.waits (D.kept,D.inuse) D.waits.length).1
  might:D.might=(qu2 D.waits (D.kept,D.inuse) D.waits.length).2
theorem Calm.fit {D:qa1} (h:Calm D):Fit D:=⟨h.ok,h.off,h.room,h.now,h.might⟩
section
variable {D:qa1}
theorem Fit.full (h:Fit D) {n:Int} (h0:0≤n) (h1:n<D.many):fullB D n=false:=by
  unfold fullB
  cases hb:D.might.getD n.toNat false with
  | true => rfl
  | false =>
    have:=trues_all (by rw [h.ok.might];omega) hb;rw [h.ok.might] at this;have hr:=h.room;have:(D.room - (qu1 D.might:Nat) == 0)=false:=by rw [beq_eq_false_iff_ne];omega
    rw [this];rfl
theorem Fit.may (h:Fit D) (n:Int):mayV D n=if n<0∨(D.many:Int)≤n then 51 else 0:=by
  unfold mayV;rw [h.off];simp
theorem Fit.write_in (h:Fit D) {n:Int} (h0:0≤n) (h1:n<D.many) (b:List UInt8):qk3 D n b=(qo3 (putD D n b) 2,if D.cut=0 then 50 else 0):=by
  unfold qk3;have hm:mayV D n=0:=by rw [h.may,if_neg omg]
  rw [if_neg omg,if_neg (by rw [h.full h0 h1];simp)]
theorem Fit.put (h:Fit D) {n:Int} (h0:0≤n) (h1:n<D.many) {b:List UInt8} (hb:b.length=128) (hw:D.waits.length<1000000) (hc:D.cut≠0):Fit (qo3 (putD D n b) 2):=by
  have hok:=vi6 (putD_ok h.ok h0 h1 hb hw) 2;refine ⟨hok,?_,h.room,?_,?_⟩
  · show (D.cut == 0)=false
    rw [beq_eq_false_iff_ne];exact hc
  · show splice D.now (n.toNat * 128) b=(qu2 (D.waits ++ [(n.toNat,b)]) (D.kept,D.inuse) (D.waits ++ [(n.toNat,b)]).length).1
    rw [keepK_app,← h.now]
  · show D.might.set n.toNat true=(qu2 (D.waits ++ [(n.toNat,b)]) (D.kept,D.inuse) (D.waits ++ [(n.toNat,b)]).length).2
    rw [keepK_app,← h.might]
theorem Fit.put_now (h:Fit D) {n:Int} (h0:0≤n) (h1:n<D.many) {b:List UInt8} (hb:b.length=128) {k:Nat} (hk:k<D.many):qf1 (qo3 (putD D n b) 2).now (k:Int)=if n=(k:Int) then b else qf1 D.now (k:Int):=by
  show qf1 (splice D.now (n.toNat * 128) b) (k:Int)=_
  rw [secOf_splice h.ok.now hb omg hk]
  by_cases e:k=n.toNat
  · rw [if_pos e,if_pos omg]
  · rw [if_neg e,if_neg omg]
theorem Fit.ops (h:Fit D) (o:List Int):Fit { D with ops:=o }:=⟨⟨h.ok.many0,h.ok.many1,h.ok.kept,h.ok.now,h.ok.inuse,h.ok.might,h.ok.waits,h.ok.room,h.ok.cut,h.ok.few⟩,h.off,h.room,h.now,h.might⟩
theorem Fit.flush_ok (h:Fit D) (hc:D.cut≠0):qb0 D=(vf5 (qo3 D 3),0)∧Fit (vf5 (qo3 D 3))∧(vf5 (qo3 D 3)).kept=D.now∧(vf5 (qo3 D 3)).now=D.now:=by
  have hm:mayV D 0=0:=by rw [h.may,if_neg (by have:=h.ok.many0;omega)]
  refine ⟨by unfold qb0;rw [if_neg omg,if_neg hc],⟨flushD_ok (vi6 h.ok 3),?_,h.room,?_,?_⟩,h.now.symm,rfl⟩
  · show (D.cut == 0)=false
    rw [beq_eq_false_iff_ne];exact hc
  · show D.now=_;rw [h.now];rfl
  · show D.might=_;rw [h.might];rfl
theorem Fit.flush_cut (h:Fit D) (hc:D.cut=0):qb0 D=(qo3 D 3,50):=by
  have hm:mayV D 0=0:=by rw [h.may,if_neg (by have:=h.ok.many0;omega)]
  unfold qb0;rw [if_neg omg,if_pos hc]
end
theorem rdK_fit {D:qa1} (h:Fit D) (k:Nat):Fit (rdK D k)∧(rdK D k).many=D.many∧(rdK D k).waits=D.waits∧(rdK D k).now=D.now∧(rdK D k).kept=D.kept:=by
  obtain ⟨o,e⟩:=qo8 D k;rw [e];exact ⟨h.ops o,rfl,rfl,rfl,rfl⟩
theorem crash_fit {D:qa1} (h:D.Ok) (hr:D.room=D.many) (cs:List UInt8):Calm (qp3 D cs)∧(qp3 D cs).waits=[]∧(qp3 D cs).many=D.many∧(qp3 D cs).now=(qp3 D cs).kept :=
  ⟨⟨crashV_ok h cs,rfl,rfl,hr,rfl,rfl⟩,rfl,rfl,rfl⟩
theorem get_fit {D:qa1} {f m nx n:Nat} {kind:Int} (h:D.off=false) (hfm:f+m≤D.many) (hnm:nx≤m) (hn:n<nx) (hr:recN D.now f kind n) :
    qv1 D f m kind nx (n:Int)=(qj0 D,qg6 (qf1 D.now ((f+n:Nat):Int)),0):=by
  have hon:=vn9 h hfm (show n<m by omega);unfold recN recB at hr;rw [Bool.and_eq_true,decide_eq_true_eq] at hr;unfold qv1;rw [if_neg omg];have e:qe5 D f m (n:Int) kind=((n:Int),qg6 (qf1 D.now ((f+n:Nat):Int)),0):=by
    unfold qe5;rw [hon,if_neg smp]
    show qq7 _ kind=_
    unfold qq7;rw [if_pos hr.1,hr.2]
  rw [e,hon,if_neg smp,if_neg smp]
theorem headN_of {load:List UInt8} (hl:load.length≤512):qv2 (qm3 load)=(load.length:Int)∧(qm3 load).drop 8=sumL load:=by
  have h8:(putL (un load.length)).length=8:=qq3 _;refine ⟨?_,?_⟩
  · unfold qv2 qm3;rw [List.take_append_of_le_length omg,List.take_of_length_le omg,vk8 _ (un_lt _),sg_un omg omg]
  · unfold qm3;rw [← h8,List.drop_left]
theorem padL_of {load:List UInt8} {i:Nat} (hi:i<qf4 load.length):padL load i=((load ++ List.replicate (qf4 load.length * 128 - load.length) 0).drop (i * 128)).take 128:=by
  have h1:i * 128<load.length:=by unfold qf4 at hi;omega
  have h2:load.length≤qf4 load.length * 128:=by unfold qf4;omega
  unfold padL;rw [List.drop_append_of_le_length omg,List.take_append]
  congr 1
  rw [List.take_replicate,List.length_take,List.length_drop]
  congr 1
  omega
def laid (N:Nat→List UInt8) (f:Nat) (load:List UInt8) (k:Nat):Nat→List UInt8:=fun s => if f+1≤s∧s<f+1+k then padL load (s - (f+1)) else N s
def qv4 (K:Nat→List UInt8) (f:Nat):Nat→List UInt8:=fun s => if s=f then qa3 else K s
theorem vk5 {S:List UInt8} (h:qa4 S 0=0):qs0 S 2=false:=by
  cases ho:qs0 S 2 with
  | false => rfl
  | true => have:=(vb4 ho).1;omega
theorem not_head127 {S:List UInt8} (h:qa4 S 127=0):qs0 S 2=false:=by
  cases ho:qs0 S 2 with
  | false => rfl
  | true => have:=(vb4 ho).2.1;omega
def othS (s:SlV3):Nat:=if s.now=0 then 1 else 0
section
variable {D E:qa1} {s:SlV3} {n:Nat}
theorem othS_le (s:SlV3):othS s≤1:=by unfold othS;split <;> omega
end
end Go.Proofs.YtmeebofhlilcmaaGreat
