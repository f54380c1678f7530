/- Parts: PlainEngF, PlainEngG, PlainEngH, EngD. -/
import Derived.Test.YtmeebofhlilcmaaGreatPr02
import Derived.Test.YtmeebofhlilcmaaGreatPr49
import Derived.Test.YtmeebofhlilcmaaGreatPr48
import Derived.Test.YtmeebofhlilcmaaGreatPr41
set_option linter.unusedVariables false
set_option linter.unusedSimpArgs false
set_option maxRecDepth 100000
set_option maxHeartbeats 40000000
namespace Go.Proofs.YtmeebofhlilcmaaGreat
open Go.RowKit
def vr9 (m k:Nat) (alls:List (List UInt8)) (f kind:Nat) (N:Secs):Says:=fun s S => if f≤s∧s<f+m then SecJ kind k alls (s - f) S else S=N s
theorem vr8 {m k:Nat} {alls:List (List UInt8)} {f kind:Nat} {N:Secs} {n:Nat} (h:n<m):vr9 m k alls f kind N (f+n)=SecJ kind k alls n:=by
  funext S
  unfold vr9;rw [if_pos omg,show f+n - f=n by omega]
theorem feedP_out {m k:Nat} {alls:List (List UInt8)} {f kind:Nat} {N:Secs} {j:Nat} {S:List UInt8} (h:vr9 m k alls f kind N j S) (hj:j<f∨f+m≤j):S=N j:=by
  unfold vr9 at h
  rwa [if_neg omg] at h
theorem vo8 {m k:Nat} {alls:List (List UInt8)} {f kind:Nat} {N:Secs} (h:∀ n,n<m→SecJ kind k alls n (N (f+n))) (j:Nat):vr9 m k alls f kind N j (N j):=by
  unfold vr9
  split
  · rename_i q;have:=h (j - f) omg
    rwa [show f+(j - f)=j by omega] at this
  · rfl
theorem vo7 {m k:Nat} {alls:List (List UInt8)} {f kind:Nat} {N:Secs} {n:Nat} (hn:k≤n) (hm:n<m):qo2 (vr9 m k alls f kind N (f+n)) qa3:=by
  rw [vr8 hm];exact SecJ.wiped hn
theorem qv5 {N:Secs} {f nx m j:Nat} (h:j<f+nx∨f+m≤j):qs8 N f nx m j=N j:=by
  unfold qs8;rw [if_neg omg]
section
variable {p:PV} {H m c:Nat} {pace ran:Int} {D D':qa1} {rows all:List (List Int)} {N N':Secs} {k:Nat}
theorem Jrn.secJ {f kind:Nat} {als:List (List UInt8)} (h:Jrn N f m kind als) {j n:Nat} (hj:j≤als.length) (hn:n<m):SecJ kind j als n (N (f+n)):=by
  have:=(h.secA (more:=[]) hn).j;rw [List.append_nil] at this;exact this.less hj nlr
theorem Good.opened (G:Prg p H m pace) (h:Good p H m c pace k all ran N) (hr:Rest D N) (big:11+2 * m≤D.many) (hc:c<8000000000000000000) :
    ((qt4 m p (H:Int) pace D).2.2=0∧∃ nx,k≤nx∧nx≤all.length∧EgOn p H m (c+1) pace (qt4 m p (H:Int) pace D).1 (qt4 m p (H:Int) pace D).2.1 (all.take nx)∧(qt4 m p (H:Int) pace D).2.1.tick=(nx:Int)∧0≤(qt4 m p (H:Int) pace D).2.1.replayed∧(qt4 m p (H:Int) pace D).2.1.replayed≤pace+(nx:Int) - ran∧(qt4 m p (H:Int) pace D).1.many=D.many∧(D.cut=-1→(qt4 m p (H:Int) pace D).1.cut=-1)) ∨
    ((qt4 m p (H:Int) pace D).2.2=50∧∃ k' nx,k≤k'∧k'≤nx∧nx≤all.length∧Went D (qt4 m p (H:Int) pace D).1 (Good p H m (c+1) pace k' (all.take nx) ran)):=by
  obtain ⟨kS,s,n,last,is,r1,r2,r3,r4,r5,r6⟩:=h.rest;have hm1:=G.m1;have hm2:=G.m2;have hH:=G.h63;have hle:=h.le;have hfit:=h.fit;have htake:∀ nx,nx≤all.length→(all.take nx).length=nx:=fun nx q => by rw [List.length_take];omega
  have hrd:qb4 D 0 1 0=(qj0 D,N 0,0):=by
    have:=vn9 (D:=D) (f:=0) (m:=1) (k:=0) hr.fit.off omg omg;rw [Nat.add_zero,hr.now 0 omg] at this;exact this
  have htk:qe5 D 0 1 0 1=((H:Int),[],0):=by
    obtain ⟨o1,o2,o3⟩:=vg8 (kind:=1) (n:=H) (load:=[]) omg omg hH smp;rw [show (1:Int).toNat=1 from rfl] at o1 o2 o3;unfold qe5;rw [hrd,if_neg smp]
    show qq7 (N 0) 1=_
    rw [h.root];unfold qq7;rw [if_pos o1,o2,o3];unfold sg;rw [if_pos hH]
  have hopen:qt4 m p (H:Int) pace D=openF m p (H:Int) pace (qc2 (qj0 D) 11 m 3 p.ins):=by
    unfold qt4;rw [htk,hrd];unfold openO;rw [if_neg (by unfold ve9;simp)]
  rw [hopen];have hr0:Rest (qj0 D) N:=hr.ops _;have hf:=hr0.fopen (k:=k) (f:=11) (m:=m) (kind:=3) (ts:=p.ins) (rows:=all) (P:=vr9 m k (qc3 p.ins all) 11 3 N) G.ins (by show 11+m≤D.many;omega) omg omg omg h.rok hle hfit h.feed (fun j _ => vo8 h.feed j) (fun n q1 q2 => vo7 q1 q2);rw [show ((3:Nat):Int)=3 from rfl] at hf;obtain ⟨a1,a2⟩:=hf;generalize qc2 (qj0 D) 11 m 3 p.ins=F at *;have a1':F.1.many=D.many:=a1;unfold openF;rcases a2 with ⟨nx,b1,b2,b3,b4,b5,b6⟩ | ⟨b3,b4,b5,b6⟩;rotate_left 1
  · right
    rw [if_pos (by rw [b3];simp)];refine ⟨by rw [b3],k,all.length,Nat.le_refl _,hle,Nat.le_refl _,b4,b5,a1',_,b6,fun N' hN => ?_⟩;rw [List.take_of_length_le nlr];have ho:∀ j:Nat,j<11+2 * m→(j<11∨11+m≤j)→N' j=N j:=fun j hj q => feedP_out (hN j (by show j<F.1.many;omega)) q
    refine ⟨by rw [ho 0 omg omg];exact h.root,h.rok,hle,hfit,fun j hj => ?_,kS,s,n,last,is,r1,fun j hj => ?_,r3.congr (fun j j1 j2 => ho j omg omg),omg,r5,r6⟩
    · have:=hN (11+j) (by show 11+j<F.1.many;omega)
      rwa [vr8 hj] at this
    · rw [ho (11+m+j) omg omg];exact r2 j hj
  rw [if_neg (by rw [b3];simp)];have hlx:=htake nx b2;have hks2:kS≤k:=r1;have hj2:∀ j,j<m→SecJ 4 kS (qc3 p.outs (qi8 p all k)) j (qs8 N 11 nx m (11+m+j)):=fun j hj => by rw [qv5 omg];exact r2 j hj
  have hs:=b4.fopen (k:=kS) (f:=11+m) (m:=m) (kind:=4) (ts:=p.outs) (rows:=qi8 p all k) (P:=vr9 m kS (qc3 p.outs (qi8 p all k)) (11+m) 4 (qs8 N 11 nx m)) G.outs (by rw [a1'];omega) omg omg omg (outs_ok G h.rok hle) (by rw [qi5];exact r1) (by rw [qi5];omega) hj2 (fun j _ => vo8 hj2 j) (fun n q1 q2 => vo7 q1 q2);rw [show ((4:Nat):Int)=4 from rfl] at hs;obtain ⟨c1,c2⟩:=hs;have hF21:F.2.1=nx:=by rw [b3]
  unfold openS;rw [hF21];generalize qc2 F.1 (11+m) m 4 p.outs=S at *;have hroot1:qs8 N 11 nx m 0=qe2 1 H []:=by rw [qv5 omg];exact h.root
  rcases c2 with ⟨nx2,d1,d2,d3,d4,d5,d6⟩ | ⟨d3,d4,d5,d6⟩;rotate_left 1
  · right
    rw [if_pos (by rw [d3];simp)];refine ⟨by rw [d3],k,nx,Nat.le_refl _,b1,b2,d4,fun q => d5 (b6 q),c1.trans a1',_,d6,fun N' hN => ?_⟩;have hSm:S.1.many=D.many:=c1.trans a1';have ho:∀ j:Nat,j<11+m→N' j=qs8 N 11 nx m j:=fun j hj => feedP_out (hN j (by show j<S.1.many;omega)) omg
    refine ⟨by rw [ho 0 omg];exact hroot1,h.rok.take_ nx,by rw [hlx];exact b1,by rw [hlx];omega,fun j hj => ?_,kS,s,n,last,is,r1,fun j hj => ?_,r3.congr (fun j j1 j2 => by rw [ho j omg,qv5 omg]),omg,fun e => ⟨?_,(r5 e).2⟩,r6⟩
    · rw [ho (11+j) omg];exact b5.secJ (by rw [qc5,hlx];exact b1) hj
    · have:=hN (11+m+j) (by show 11+m+j<S.1.many;omega);rw [vr8 hj] at this;have e:qi8 p all k=qi8 p (all.take nx) k:=by
        conv => lhs;rw [← List.take_append_drop nx all]
        exact vf1 _ (by rw [hlx];exact b1)
      rwa [e] at this
    · rw [(r5 e).1]
      conv => lhs;rw [← List.take_append_drop nx all]
      exact qn9 _ _ (by rw [hlx];have:=(r5 e).2.2;omega)
  rw [if_neg (by rw [d3];simp)];rw [qi5] at d2;have hS21:S.2.1=nx2:=by rw [d3]
  rw [hS21];have hN2:∀ j:Nat,j<11→qs8 (qs8 N 11 nx m) (11+m) nx2 m j=N j:=fun j hj => by rw [qv5 omg,qv5 omg]
  have hSm:S.1.many=D.many:=c1.trans a1';have kp2:KpN p (H:Int) (qs8 (qs8 N 11 nx m) (11+m) nx2 m) s n last is:=r3.congr (fun j j1 j2 => hN2 j omg);obtain ⟨o,hk⟩:=kp2.open_ d4 omg G.hv;rw [hk];unfold openK;rw [if_neg smp];simp only;have hbt:qg1 p (all.take nx) 0=qn0 p:=rfl;have hE:qk6 p nx nx2 (kOf (H:Int) s n last is)=⟨nx,nx2,kOf (H:Int) s n last is,qg1 p (all.take nx) (qg7 n last).toNat,qg7 n last,0,0,false,false⟩:=by
    unfold qk6 kOf qg7;rcases Nat.eq_zero_or_pos n with q | q
    · subst q;rfl
    · have hnz:n≠0:=omg;have hc2:is=qg1 p (all.take nx) last.toNat:=by
        rw [(r5 q).1]
        conv => lhs;rw [← List.take_append_drop nx all]
        exact qn9 _ _ (by rw [hlx];have:=(r5 q).2.2;omega)
      simp only [if_neg hnz,decide_eq_true q,if_true];rw [← hc2]
  have hsv0:0≤qg7 n last∧qg7 n last≤(kS:Int):=by
    unfold qg7
    split
    · omega
    · have:=r5 omg;omega
  rw [hE];have hnb:¬ qj8 ⟨nx,nx2,kOf (H:Int) s n last is,qg1 p (all.take nx) (qg7 n last).toNat,qg7 n last,0,0,false,false⟩:=fun q => by
    unfold qj8 at q;simp only at q;omega
  rw [if_neg hnb];have hsink:Jrn (qs8 (qs8 N 11 nx m) (11+m) nx2 m) (11+m) m 4 (qc3 p.outs (qi8 p (all.take nx) nx2)):=by
    rw [vn6 p all d2] at d5;have e:qi8 p all nx2=qi8 p (all.take nx) nx2:=by
      conv => lhs;rw [← List.take_append_drop nx all]
      exact vf1 _ (by rw [hlx];omega)
    rwa [e] at d5
  have hmid:Mid p H m c { S.1 with ops:=o } ⟨nx,nx2,kOf (H:Int) s n last is,qg1 p (all.take nx) (qg7 n last).toNat,qg7 n last,0,0,false,false⟩ (all.take nx) (qs8 (qs8 N 11 nx m) (11+m) nx2 m) nx2 s n last is :=
    Mid.ofRest (d4.ops o) (by show 11+2 * m≤S.1.many;omega) (by rw [hN2 0 omg];exact h.root) (b5.congr (fun j hj => by rw [qv5 omg])) (h.rok.take_ nx) hsink kp2
      (fun q => ⟨by
        rw [(r5 q).1]
        conv => lhs;rw [← List.take_append_drop nx all]
        exact qn9 _ _ (by rw [hlx];have:=(r5 q).2.2;omega),(r5 q).2.1,by show last≤(nx2:Int);have:=(r5 q).2.2;omega⟩) r4 rfl hlx.symm (by rw [hlx];show nx2≤nx;omega) hsv0.1 (by show qg7 n last≤(nx2:Int);omega) rfl (Int.le_refl _) hsv0.1 (by show qg7 n last≤qg7 n last+0;omega) (Int.le_refl _) rfl
  rcases hmid.replay G omg rfl r6 with ⟨e1,e2,e3,e4,e5,e6⟩ | ⟨e1,e2⟩
  · left
    rw [if_neg (by rw [e1];simp)];rw [hlx] at e3 e4;exact ⟨e1,nx,b1,b2,e2,e3,by rw [e4];show 0≤(0:Int)+((nx:Int) - qg7 n last);omega,by rw [e4];show (0:Int)+((nx:Int) - qg7 n last)≤_;omega,e5.trans hSm,fun q => e6 (d6 (b6 q))⟩
  · right
    rw [if_pos (by rw [e1];simp)];refine ⟨e1,nx,nx,b1,Nat.le_refl _,b2,?_⟩;rw [hlx] at e2;exact e2.trans (D:=D) (fun q => d6 (b6 q)) hSm
end
def anyP:Says:=fun _ _ => True
theorem shut_any (n:Nat) (b:List UInt8):qo2 (anyP n) b:=fun _ _ _ _ _ => trivial
theorem mem_dirtyL (now:List UInt8) (f a:Nat):∀ (k:Nat) (z:Int),z ∈ qj2 now f a k ↔ ∃ j:Nat,z=((a+j:Nat):Int)∧j<k∧qf1 now ((f+(a+j):Nat):Int)≠qa3:=by
  intro k
  induction k with
  | zero => intro z;exact ⟨(fun h => by unfold qj2 at h;cases h),(fun ⟨j,_,h,_⟩ => absurd h omg)⟩
  | succ k ih =>
    intro z;unfold qj2
    split
    · rename_i q;rw [ih];constructor
      · rintro ⟨j,h1,h2,h3⟩;exact ⟨j,h1,omg,h3⟩
      · rintro ⟨j,h1,h2,h3⟩;rcases Nat.lt_or_ge j k with q2 | q2
        · exact ⟨j,h1,q2,h3⟩
        · have:j=k:=omg;subst this;exact absurd q h3
    · rename_i q;rw [List.mem_append,ih,List.mem_singleton];constructor
      · rintro (⟨j,h1,h2,h3⟩ | rfl)
        · exact ⟨j,h1,omg,h3⟩
        · exact ⟨k,rfl,omg,q⟩
      · rintro ⟨j,h1,h2,h3⟩;rcases Nat.lt_or_ge j k with q2 | q2
        · exact .inl ⟨j,h1,q2,h3⟩
        · have:j=k:=omg;subst this;exact .inr h1
theorem dirtyL_len2 (now:List UInt8) (f a:Nat):∀ k,(qj2 now f a k).length≤k:=by
  intro k
  induction k with
  | zero => exact Nat.le_refl _
  | succ k ih =>
    unfold qj2
    split
    · omega
    · rw [List.length_append,List.length_singleton];omega
theorem Pow.wipes {f m:Nat}:∀ (l:List Int) {D:qa1} {N:Secs},Pow D N anyP→f+m≤D.many→(∀ x ∈ l,∃ n:Nat,x=(n:Int)∧n<m)→D.waits.length+l.length<1000000 →
    (qm2 D f m l).1.many=D.many∧(((qm2 D f m l).2=0∧(∃ N',Pow (qm2 D f m l).1 N' anyP∧∀ k,k<D.many→N' k=if f≤k∧((k:Int) - f) ∈ l then qa3 else N k)∧(D.cut=-1→(qm2 D f m l).1.cut=-1)) ∨
      ((qm2 D f m l).2=50∧(qm2 D f m l).1.off=true∧D.cut≠-1∧Safe (qm2 D f m l).1 anyP)):=by
  intro l
  induction l with
  | nil => intro D N h _ _ _;exact ⟨rfl,.inl ⟨rfl,⟨N,h,fun k _ => by rw [if_neg smp]⟩,fun q => q⟩⟩
  | cons x l ih =>
    intro D N h hfm hl hw;obtain ⟨n,rfl,hn⟩:=hl x (List.mem_cons_self ..);simp only [List.length_cons] at hw;obtain ⟨a1,a2,a3⟩:=h.awrite hfm hn qc0 omg (shut_any _ _);rcases a3 with ⟨b1,b2,b3⟩ | ⟨b1,b2,b3,b4⟩
    · rw [qv7 b1];obtain ⟨c1,c2⟩:=ih b2 (by rw [a1];exact hfm) (fun y hy => hl y (List.mem_cons_of_mem _ hy)) (by rw [a2,List.length_append,List.length_singleton];omega);refine ⟨c1.trans a1,?_⟩;rcases c2 with ⟨d1,⟨N',d2,d3⟩,d4⟩ | ⟨d1,d2,d3,d4⟩
      · refine .inl ⟨d1,⟨N',d2,fun k hk => ?_⟩,fun q => d4 (b3 q)⟩;rw [d3 k omg];unfold putN
        by_cases e:k=f+n
        · subst e;rw [if_pos rfl,if_pos (c:=f≤f+n∧(((f+n:Nat):Int) - f) ∈ (n:Int) :: l) ⟨omg,by rw [List.mem_cons];exact .inl omg⟩]
          split <;> rfl
        · rw [if_neg e]
          by_cases e2:f≤k∧((k:Int) - f) ∈ l
          · rw [if_pos e2,if_pos ⟨e2.1,List.mem_cons_of_mem _ e2.2⟩]
          · rw [if_neg e2,if_neg (fun q => e2 ⟨q.1,by rcases List.mem_cons.1 q.2 with r | r;exact absurd r omg;exact r⟩)]
      · exact .inr ⟨d1,d2,fun q => d3 (b3 q),d4⟩
    · rw [qv6 (by rw [b1];simp)];exact ⟨a1,.inr ⟨b1,b2,b3,b4⟩⟩
theorem Rest.wiped {D:qa1} {N:Secs} (h:Rest D N) {f m a n:Nat} (hfm:f+m≤D.many) (han:a+n≤m) :
    (qi0 D f m a n).1.many=D.many∧(((qi0 D f m a n).2=0∧(∃ N',Rest (qi0 D f m a n).1 N'∧∀ k,k<D.many→N' k=if f+a≤k∧k<f+(a+n) then qa3 else N k)∧(D.cut=-1→(qi0 D f m a n).1.cut=-1)) ∨
      ((qi0 D f m a n).2=50∧(qi0 D f m a n).1.off=true∧D.cut≠-1∧Safe (qi0 D f m a n).1 anyP)):=by
  have hm4:=h.fit.ok.many1;have hun:qi0 D f m a n=wipeW (qj2 D.now f a n) (qm2 (rdK D n) f m (qj2 D.now f a n)):=by
    unfold qi0;rw [if_neg (by rw [h.fit.off];simp)]
  have hmem:=mem_dirtyL D.now f a n;have hle:=dirtyL_len2 D.now f a n;rw [hun];obtain ⟨o,eo⟩:=qo8 D n;rw [eo];have hp:Pow D N anyP:=h.pow (fun _ _ => trivial);obtain ⟨c1,c2⟩:=Pow.wipes (f:=f) (m:=m) (qj2 D.now f a n) (hp.ops o) hfm (fun x hx => by
    obtain ⟨j,h1,h2,_⟩:=(hmem x).1 hx;exact ⟨a+j,h1,omg⟩) (by show D.waits.length+_<_;rw [h.waits];simp;omega)
  have hN:∀ (N':Secs),(∀ k,k<D.many→N' k=if f≤k∧((k:Int) - f) ∈ qj2 D.now f a n then qa3 else N k)→∀ k,k<D.many→N' k=if f+a≤k∧k<f+(a+n) then qa3 else N k:=fun N' hN k hk => by
    rw [hN k hk]
    by_cases q:f≤k∧((k:Int) - f) ∈ qj2 D.now f a n
    · obtain ⟨j,h1,h2,_⟩:=(hmem _).1 q.2;rw [if_pos q,if_pos omg]
    · rw [if_neg q]
      split
      · rename_i q2
        by_cases q3:N k=qa3
        · exact q3
        · refine absurd ⟨omg,(hmem _).2 ⟨k - f - a,omg,by omega,?_⟩⟩ q;rw [show f+(a+(k - f - a))=k by omega,h.now k hk];exact q3
      · rfl
  generalize hW:qm2 { D with ops:=o } f m (qj2 D.now f a n)=W at *;have c1':W.1.many=D.many:=c1;rcases c2 with ⟨d1,⟨N',d2,d3⟩,d4⟩ | ⟨d1,d2,d3,d4⟩
  · unfold wipeW;rw [if_neg (by rw [d1];simp)]
    split
    · rename_i hd;rw [hd] at hW;have hW2:W.1={ D with ops:=o }:=by rw [← hW];rfl
      exact ⟨c1',.inl ⟨rfl,⟨N',Rest.of_pow d2 (by show W.1.waits=[];rw [hW2];exact h.waits),hN N' d3⟩,d4⟩⟩
    · obtain ⟨e1,e2⟩:=d2.flush;refine ⟨e1.trans c1',?_⟩;rcases e2 with ⟨e2,e3,e4⟩ | ⟨e2,e3,e4,e5⟩
      · exact .inl ⟨e2,⟨N',e3,hN N' d3⟩,fun q => e4 (d4 q)⟩
      · exact .inr ⟨e2,e3,fun q => e4 (d4 q),e5⟩
  · unfold wipeW;rw [if_pos (by rw [d1];simp)];exact ⟨c1',.inr ⟨d1,d2,d3,d4⟩⟩
theorem Pow.aput {D:qa1} {N:Secs} {P:Says} (h:Pow D N P) {f m n kind num:Nat} (hfm:f+m≤D.many) (k1:1≤kind) (k2:kind≤255) (hn:n<m) {l:List UInt8} (hl:l.length≤113) (hw:D.waits.length<1000000) (hs:qo2 (P (f+n)) (qe2 kind num l)) :
    (qh1 D f m (n:Int) (kind:Int) (num:Int) l).1.many=D.many ∧
    (((qh1 D f m (n:Int) (kind:Int) (num:Int) l).2=0∧Pow (qh1 D f m (n:Int) (kind:Int) (num:Int) l).1 (putN N (f+n) (qe2 kind num l)) P∧(D.cut=-1→(qh1 D f m (n:Int) (kind:Int) (num:Int) l).1.cut=-1)) ∨
      ((qh1 D f m (n:Int) (kind:Int) (num:Int) l).2=50∧(qh1 D f m (n:Int) (kind:Int) (num:Int) l).1.off=true∧D.cut≠-1∧Safe (qh1 D f m (n:Int) (kind:Int) (num:Int) l).1 P)):=by
  have hmk:qz1 (kind:Int) (num:Int) l=(qe2 kind num l,0):=by
    unfold qz1;rw [if_neg omg,if_neg omg];simp
  obtain ⟨a1,a2,a3⟩:=h.awrite hfm hn (qo6 kind num l hl) hw hs;have hput:qh1 D f m (n:Int) (kind:Int) (num:Int) l=qa9 D f m (n:Int) (qe2 kind num l):=by
    unfold qh1;rw [hmk,if_neg smp]
  rw [hput];exact ⟨a1,a3⟩
theorem Rest.formatted {D:qa1} {N:Secs} (h:Rest D N) {M H:Nat} (hM:2≤M) (hMm:M≤D.many) :
    (qr4 M (H:Int) D).1.many=D.many∧(((qr4 M (H:Int) D).2=0∧(∃ N',Rest (qr4 M (H:Int) D).1 N'∧N' 0=qe2 1 H []∧∀ k,1≤k→k<M→N' k=qa3)∧(D.cut=-1→(qr4 M (H:Int) D).1.cut=-1)) ∨
      ((qr4 M (H:Int) D).2=50∧(qr4 M (H:Int) D).1.off=true∧D.cut≠-1∧Safe (qr4 M (H:Int) D).1 anyP)):=by
  obtain ⟨a1,a2⟩:=h.wiped (f:=0) (m:=M) (a:=0) (n:=1) omg omg;unfold qr4;generalize qi0 D 0 M 0 1=W1 at *;unfold formB;rcases a2 with ⟨b1,⟨N1,b2,b3⟩,b4⟩ | ⟨b1,b2,b3,b4⟩
  · rw [if_neg (by rw [b1];simp)];obtain ⟨c1,c2⟩:=b2.wiped (f:=0) (m:=M) (a:=1) (n:=M - 1) omg omg;generalize qi0 W1.1 0 M 1 (M - 1)=W2 at *;unfold formC;rcases c2 with ⟨d1,⟨N2,d2,d3⟩,d4⟩ | ⟨d1,d2,d3,d4⟩
    · rw [if_neg (by rw [d1];simp)];obtain ⟨e1,e2⟩:=(d2.pow (P:=anyP) (fun _ _ => trivial)).aput (f:=0) (m:=M) (n:=0) (kind:=1) (num:=H) (l:=[]) omg omg omg omg smp (by rw [d2.waits];simp) (shut_any _ _);have e2':_:=e2;generalize hW3:qh1 W2.1 0 M 0 1 (H:Int) []=W3;have hW3':qh1 W2.1 0 M ((0:Nat):Int) ((1:Nat):Int) (H:Int) []=W3:=hW3;rw [hW3'] at e1 e2;unfold formD;rcases e2 with ⟨f1,f2,f3⟩ | ⟨f1,f2,f3,f4⟩
      · rw [if_neg (by rw [f1];simp)];obtain ⟨g1,g2⟩:=f2.flush;refine ⟨omg,?_⟩;rcases g2 with ⟨g2,g3,g4⟩ | ⟨g2,g3,g4,g5⟩
        · refine .inl ⟨g2,⟨_,g3,?_,fun k k1 k2 => ?_⟩,fun q => g4 (f3 (d4 (b4 q)))⟩
          · unfold putN;rw [if_pos rfl]
          · unfold putN;rw [if_neg omg,d3 k omg,if_pos omg]
        · exact .inr ⟨g2,g3,fun q => g4 (f3 (d4 (b4 q))),g5⟩
      · rw [if_pos (by rw [f1];simp)];exact ⟨omg,.inr ⟨f1,f2,fun q => f3 (d4 (b4 q)),f4⟩⟩
    · rw [if_pos (by rw [d1];simp)];exact ⟨omg,.inr ⟨d1,d2,fun q => d3 (b4 q),d4⟩⟩
  · rw [if_pos (by rw [b1];simp)];exact ⟨a1,.inr ⟨b1,b2,b3,b4⟩⟩
theorem good_new {p:PV} {H m:Nat} {pace:Int} {N:Secs} (hp:1≤pace) (root:N 0=qe2 1 H []) (hz:∀ k,1≤k→k<11+m+m→N k=qa3):Good p H m 0 pace 0 [] 0 N:=by
  have hsl:∀ f,1≤f→f<11+m+m→(qn5 N f).2.2=53:=fun f h1 h2 => ve6 (vk5 (by rw [hz f h1 h2];decide))
  refine ⟨root,⟨fun x hx => absurd hx smp,fun x hx => absurd hx smp⟩,Nat.le_refl _,Nat.zero_le _,fun n hn => ?_,0,⟨2,0,[]⟩,0,-1,[],Nat.le_refl _,fun n hn => ?_,?_,Nat.le_refl _,fun q => absurd q omg,?_⟩
  · rw [hz (11+n) omg omg];exact ⟨fun l q => absurd q omg,fun _ => .inl dcd⟩
  · rw [hz (11+m+n) omg omg];exact ⟨fun l q => absurd q omg,fun _ => .inl dcd⟩
  · exact ⟨⟨rfl,fun _ => ⟨rfl,hsl 1 omg omg,hsl 6 omg omg⟩,fun q => absurd q omg⟩,fun _ => ⟨rfl,rfl⟩,fun q => absurd q omg⟩
  · show (0:Int)≤qg7 0 (-1)+pace
    unfold qg7;rw [if_pos rfl];omega
structure qt8 (m:Nat) (p:PV) (D D':qa1) (E E':EgV) (more:Nat):Prop where
  ok:EgOk m p E'
  many:D'.many=D.many
  waits:D'.waits.length≤D.waits.length+more
  rep:E'.replayed=E.replayed
  io:E.nOut≤E.nIn→E'.nOut≤E.nIn
  nin:E'.nIn=E.nIn
section
variable {m:Nat} {p:PV} {D D1 D2:qa1} {E E1 E2:EgV} {hash pace:Int} {a b:Nat}
theorem qt8.refl (ok:EgOk m p E):qt8 m p D D E E 0:=⟨ok,rfl,Nat.le_refl _,rfl,fun h => h,rfl⟩
theorem qt8.trans (h:qt8 m p D D1 E E1 a) (k:qt8 m p D1 D2 E1 E2 b):qt8 m p D D2 E E2 (a+b) :=
  ⟨k.ok,k.many.trans h.many,by have:=h.waits;have:=k.waits;omega,k.rep.trans h.rep,fun q => by have:=k.io (by rw [h.nin];exact h.io q);rw [h.nin] at this;exact this,k.nin.trans h.nin⟩
theorem qt8.mono (h:qt8 m p D D1 E E1 a) (hab:a≤b):qt8 m p D D1 E E1 b:=⟨h.ok,h.many,by have:=h.waits;omega,h.rep,h.io,h.nin⟩
theorem EgOk.told (h:EgOk m p E) (z:Int):EgOk m p (qx3 E z):=⟨h.i0,h.o0,h.t0,h.t1,h.p0,h.p1,h.r0,h.r1,h.cf,h.c64,h.kl,h.kn⟩
theorem qt8.told (h:qt8 m p D D1 E E1 a) (z:Int):qt8 m p D D1 E (qx3 E1 z) a:=⟨h.ok.told z,h.many,h.waits,h.rep,h.io,h.nin⟩
theorem jAddV_or (D:qa1) (f m:Nat) (kind:Int) (next:Nat) (l:List UInt8):(qh8 D f m kind next l).2.1=next∨(qh8 D f m kind next l).2.1=next+1:=by
  unfold qh8
  split
  · exact .inl rfl
  split
  · exact .inl rfl
  split
  · exact .inl rfl
  · exact .inr rfl
theorem sPutV_or (D:qa1) (f m:Nat) (kind:Int) (next:Nat) (ts:List Int) (n:Int) (l:List Int):(qt1 D f m kind next ts n l).2.1=next∨((qt1 D f m kind next ts n l).2.1=next+1∧n=(next:Int)):=by
  unfold qt1
  split
  · exact .inl rfl
  rename_i q1
  split
  · exact .inl rfl
  split
  · exact .inl rfl
  rename_i q3;have hn:n=(next:Int):=omg;have h:=jAddV_or D f m kind next (rowB ts l ts.length)
  split
  · rcases h with h | h
    · exact .inl h
    · exact .inr ⟨h,hn⟩
  · rcases h with h | h
    · exact .inl h
    · exact .inr ⟨h,hn⟩
theorem eone_out (m:Nat) (p:PV) (D:qa1) (E:EgV):(qc9 m p D E).2.1.nOut=E.nOut∨((qc9 m p D E).2.1.nOut=E.nOut+1∧E.tick=(E.nOut:Int)):=by
  unfold qc9 vl2
  split
  · exact .inl rfl
  unfold eOneB
  split
  · exact .inl rfl
  have h:=sPutV_or (ql5 D 11 m 3 E.nIn p.ins E.tick).1 (11+m) m 4 E.nOut p.outs E.tick (qu9 p E.cells (ql5 D 11 m 3 E.nIn p.ins E.tick).2.1).2.1;unfold vf7
  split <;> exact h
theorem eone_pub (ok:EgOk m p E) (G:PrgW p m) (ht:E.tick<(E.nIn:Int)):qt8 m p D (qc9 m p D E).1 E (qc9 m p D E).2.1 1:=by
  have h:=vl0 (D:=D) ok G ht;have ho:=eone_out m p D E;exact ⟨h.ok,h.many,h.waits,h.rep,fun q => by omega,h.nin⟩
theorem eflush_pub (ok:EgOk m p E):qt8 m p D (qd0 D E).1 E (qd0 D E).2.1 0:=by
  have h:=vl1 (D:=D) ok;have ho:(qd0 D E).2.1.nOut=E.nOut:=by
    unfold qd0
    split
    · rfl
    · rfl
  exact ⟨h.ok,h.many,h.waits,h.rep,fun q => by rw [ho];exact q,h.nin⟩
theorem esave_out (p:PV) (hash:Int) (D:qa1) (E:EgV):(qh3 p hash D E).2.1.nOut=E.nOut:=by
  unfold qh3 vc5
  split
  · rfl
  unfold vc4
  split <;> rfl
theorem esave_pub (ok:EgOk m p E):qt8 m p D (qh3 p hash D E).1 E (qh3 p hash D E).2.1 6:=by
  have h:=vi8 (D:=D) (hash:=hash) ok;have ho:=esave_out p hash D E;exact ⟨h.ok,h.many,h.waits,h.rep,fun q => by rw [ho];exact q,h.nin⟩
theorem runT_pub {R:qa1 × EgV × Int} (ok:EgOk m p R.2.1):qt8 m p R.1 (runT p hash pace R).1 R.2.1 (runT p hash pace R).2.1 6∧(runT p hash pace R).2.1.tick=R.2.1.tick:=by
  unfold runT
  split
  · exact ⟨esave_pub ok,(vi8 (D:=R.1) (hash:=hash) ok).tick⟩
  · exact ⟨(qt8.refl ok).mono omg,rfl⟩
theorem runK_pub (G:PrgW p m) (most:Int):∀ (f k:Nat) {D:qa1} {E:EgV},EgOk m p E→E.tick+(f:Int)=(E.nIn:Int)→qt8 m p D (runK m p hash pace most f k D E).1 E (runK m p hash pace most f k D E).2.1 (7 * f):=by
  intro f
  induction f with
  | zero => intro k D E ok _;exact qt8.refl ok
  | succ f ih =>
    intro k D E ok ht;unfold runK
    by_cases q1:most≤(k:Int)
    · rw [if_pos q1];exact (qt8.refl ok).mono omg
    rw [if_neg q1];have h1:=eone_pub (D:=D) ok G omg;have h1k:=vl0 (D:=D) ok G omg;generalize qc9 m p D E=R at *
    by_cases q2:R.2.2≠0
    · rw [if_pos q2];exact h1.mono omg
    rw [if_neg q2];have hgo:=h1k.go (by simpa using q2);obtain ⟨h2,h2t⟩:=runT_pub (hash:=hash) (pace:=pace) (R:=R) h1.ok;generalize runT p hash pace R=T at *
    by_cases q3:T.2.2≠0
    · rw [if_pos q3];exact (h1.trans h2).mono omg
    rw [if_neg q3];have h3:=ih (k+1) (D:=T.1) h2.ok (by have:=h2.nin;have:=h1.nin;omega);exact ((h1.trans h2).trans h3).mono omg
theorem runE_pub (G:PrgW p m) (most:Int) (ok:EgOk m p E):qt8 m p D (runE m p hash pace most D E).1 E (runE m p hash pace most D E).2.1 (7 * m):=by
  have:=ok.i0;have:=ok.t0;have:=ok.t1;unfold runE
  split
  · exact (qt8.refl ok).mono omg
  split
  · exact (qt8.refl ok).mono omg
  have h1:=runK_pub (D:=D) (hash:=hash) (pace:=pace) G most ((E.nIn:Int) - E.tick).toNat 0 ok omg;generalize runK m p hash pace most ((E.nIn:Int) - E.tick).toNat 0 D E=R at *;have h2:=eflush_pub (D:=R.1) h1.ok;unfold runA;generalize qd0 R.1 R.2.1=F at *;unfold runB;exact ((h1.trans h2).told _).mono omg
theorem sub_unfit {l:List Int} (hoff:E.off=false) (h:qh6 p.ins l=false):(subE m p D E l).2.2=(0,41):=by
  unfold subE;rw [if_neg (by rw [hoff];simp)];have:qn2 D 11 m 3 E.nIn p.ins l=(D,E.nIn,0,41):=by
    unfold qn2 qh0;rw [if_pos h,if_pos smp]
  rw [this]
  rfl
end
section
variable {w w':World} {base g m:Nat} {q:qb9} {D:qa1} {e:EP} {p:PV} {hash pace:Int} {E:EgV}
theorem ready_any (h:qi1 w base q g e m p hash pace E):Calls Tryz.prog 122 #[.pointer (some ⟨g,0,none⟩)] w fun e' w' => e'=.returned (.int .i64 (if E.off=true then 50 else 0))∧w=w':=by
  obtain ⟨c0,c1,c2,c3,c4,c5,c6,c7,c8,c9,c10⟩:=h.words;clear h
  cases ho:E.off with
  | false =>
    rw [ho] at c10;rw [if_neg smp];go_enter Tryz.func122,Tryz.ntmps122;go_wp2;go_ret;exact ⟨rfl,rfl⟩
  | true =>
    rw [ho] at c10;rw [if_pos rfl];go_enter Tryz.func122,Tryz.ntmps122;go_wp2;go_ret;exact ⟨rfl,rfl⟩
theorem qx2 (h:qi1 w base q g e m p hash pace E) (hd:qa5 w base q D) (hs:base≤w.heap.size) (z:Int):Calls Tryz.prog 124 #[.pointer (some ⟨g,0,none⟩),.int .i64 z] w fun e' w' => e'=.returned (.int .i64 z)∧EngS w w' base q g e m p hash pace D (qx3 E z):=by
  have X4:=EngX.of h hd (Step.refl mutE base q w) hs;obtain ⟨c0,c1,c2,c3,c4,c5,c6,c7,c8,c9,c10⟩:=h.words;have f10:=h.b.frozen 10;have gl:=h.b.lt;have HX:=hdd X4;clear X4 h hd;unfold qx3
  cases ho:E.off with
  | true =>
    rw [ho] at c10;go_enter Tryz.func124,Tryz.ntmps124;go_wp2_with fail;go_ret;exact ⟨rfl,EngX.done (E:={ E with off:=true || decide (z=50) }) (HX.out.set 10 (.bool true)) rfl⟩
  | false =>
    rw [ho] at c10
    by_cases hz:z=50
    · subst hz;go_enter Tryz.func124,Tryz.ntmps124;go_wp2_with fail;go_ret;exact ⟨rfl,EngX.done (E:={ E with off:=false || decide ((50:Int)=50) }) (HX.out.set 10 (.bool true)) rfl⟩
    · have hzb:(z == 50)=false:=by rw [beq_eq_false_iff_ne];exact hz
      have hzd:decide (z=50)=false:=decide_eq_false hz;rw [hzd];clear hz hzd;go_enter Tryz.func124,Tryz.ntmps124;go_wp2_with fail;go_ret;exact ⟨rfl,EngX.done (E:={ E with off:=false || false }) (HX.out.set 10 (.bool false)) rfl⟩
theorem submit_any (h:qi1 w base q g e m p hash pace E) (ok:EgOk m p E) (G:PrgW p m) (hd:qa5 w base q D) (hs:base≤w.heap.size) (big:11+2 * m≤D.many) (hwt:D.waits.length<800000) (B:Option Addr) (k d:Nat) (l:List Int) (hl:RI w B k l) (hk:k≤maxLen) (hi:qz3 l) :
    Calls Tryz.prog 31 #[.pointer (some ⟨g,0,none⟩),.slice B k d] w fun e' w' => e'=.returned (.tuple #[.int .i64 (subE m p D E l).2.2.1,.int .i64 (subE m p D E l).2.2.2])∧EngS w w' base q g e m p hash pace (subE m p D E l).1 (subE m p D E l).2.1:=by
  have hrd:=ready_any h;obtain ⟨c0,c1,c2,c3,c4,c5,c6,c7,c8,c9,c10⟩:=h.words;have X1:=EngX.of h hd (Step.refl mutE base q w) hs;have HX1:=hdd X1;have hadd:=fdaddO_any X1.r.inn X1.d X1.hs X1.r.al omg (by have:=G.m2;omega) ok.i0 omg G.ins B k d hl hk hi;clear X1 h hd hl hi
  cases ho:E.off with
  | true =>
    have hun:subE m p D E l=(D,E,0,50):=by unfold subE;rw [if_pos ho]
    rw [hun];rw [ho,if_pos rfl] at hrd;clear hun;go_enter Tryz.func31,Tryz.ntmps31;go_wp2_with (first | (go_at_call 122;(with_reducible refine (hrd).mono ?_);rintro e' w2 ⟨rfl,rfl⟩) | fail "no arm");go_ret2;exact ⟨rfl,HX1.out.done rfl⟩
  | false =>
    have hun:subE m p D E l=subB E (qn2 D 11 m 3 E.nIn p.ins l):=by unfold subE;rw [if_neg (by rw [ho];simp)]
    rw [hun];rw [ho,if_neg smp] at hrd;clear hun;generalize qn2 D 11 m 3 E.nIn p.ins l=R at *;obtain ⟨D1,n1,v1,z1⟩:=R;simp only at hadd;unfold subB;simp only;have htl:=fun (W:World) (X:EngX w W base q g (engC e pace E) e m p hash D1 n1 E.nOut E.k E.cells) => qx2 (hash:=hash) (pace:=pace) (E:={ E with nIn:=n1 }) (EngX.done X rfl).i X.d X.hs z1
    go_enter Tryz.func31,Tryz.ntmps31;go_wp2_with (first | (go_at_call 122;(with_reducible refine (hrd).mono ?_);rintro e' w2 ⟨rfl,rfl⟩) | ((go_at_call 123;(with_reducible refine (hadd).mono ?_);rintro e' w4 ⟨rfl,d4,j4,s4,q4⟩);have X4:=hdd (HX1.out.stepF d4 s4 q4 j4);have htl4:=htl w4 X4.out) | ((go_at_call 124;(with_reducible refine (htl4).mono ?_);rintro e' w5 ⟨rfl,s5⟩);have X5:=hdd s5;clear s5) | fail "no arm");go_ret2;exact ⟨rfl,X5.out.d,X5.out.i,X4.out.s.trans X5.out.s⟩
theorem output_any (h:qi1 w base q g e m p hash pace E) (ok:EgOk m p E) (G:PrgW p m) (hd:qa5 w base q D) (hs:base≤w.heap.size) (big:11+2 * m≤D.many) (n:Int) :
    Calls Tryz.prog 98 #[.pointer (some ⟨g,0,none⟩),.int .i64 n] w fun e' w' => ∃ B k d,e'=.returned (.tuple #[.slice B k d,.int .i64 (ql5 D (11+m) m 4 E.nOut p.outs n).2.2])∧Ow iv w' w.heap.size 3 B k d (ql5 D (11+m) m 4 E.nOut p.outs n).2.1∧EngS w w' base q g e m p hash pace (ql5 D (11+m) m 4 E.nOut p.outs n).1 E:=by
  obtain ⟨c0,c1,c2,c3,c4,c5,c6,c7,c8,c9,c10⟩:=h.words;have X1:=EngX.of h hd (Step.refl mutE base q w) hs;have hget:=skget_any X1.r.out X1.d X1.hs X1.r.as_ omg (by have:=ok.o0;have:=G.m2;omega) n;have HX1:=hdd X1;clear X1 h hd ok;go_enter Tryz.func98,Tryz.ntmps98;go_wp2_with (first | ((go_at_call 189;(with_reducible refine (hget).mono ?_);rintro e' w4 ⟨B,k,d,rfl,o4,d4,s4⟩);have X4:=hdd (HX1.out.stepD d4 s4);have O4:=hdd o4) | fail "no arm");go_ret2
  first | exact ⟨B,k,d,rfl,O4.out,X4.out.done rfl⟩ | exact ⟨rfl,O4.out,X4.out.done rfl⟩
end
end Go.Proofs.YtmeebofhlilcmaaGreat
