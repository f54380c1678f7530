/- Parts: FeedA, PlainFew, FeedN, FeedC, JrnO, FeedO. -/
import Derived.Test.YtmeebofhlilcmaaGreatPr02
import Derived.Test.YtmeebofhlilcmaaGreatPr33
import Derived.Deep.DeepCutAuto
import Derived.Deep.CutBlock
import Derived.Test.YtmeebofhlilcmaaGreatPr22
import Derived.Test.YtmeebofhlilcmaaGreatPr16
set_option linter.unusedVariables false
set_option linter.unusedSimpArgs false
set_option maxRecDepth 100000
set_option maxHeartbeats 40000000
namespace Go.Proofs.YtmeebofhlilcmaaGreat
open Go.RowKit
section
variable {w w':World} {base g ga f m next:Nat} {kind:Int} {ts:List Int} {p:qb9} {D:qa1}
theorem vs2 (h:qd1 307 w base g ga kind next ts):Calls Tryz.prog 202 #[.pointer (some ⟨g,0,none⟩)] w fun e w' => e=.returned (.bool true)∧w=w':=by
  obtain ⟨gj,A,n,c,hb,hg,hj,hi⟩:=h;have c0:w.cell? ⟨g,0,none⟩=some (.pointer (some ⟨gj,0,none⟩)):=hb.cell 0;clear hb hj hi;go_enter Tryz.func202,Tryz.ntmps202;go_wp2;go_ret;exact ⟨rfl,rfl⟩
theorem qw7 (h:qd1 307 w base g ga kind next ts):Calls Tryz.prog 119 #[.pointer (some ⟨g,0,none⟩)] w fun e w' => e=.returned (.int .i64 (next:Nat))∧w=w':=by
  have hi:=vs2 h;obtain ⟨gj,A,n,c,hb,hg,hj,_⟩:=h;have c0:w.cell? ⟨g,0,none⟩=some (.pointer (some ⟨gj,0,none⟩)):=hb.cell 0;have hl:=vf3 hj;clear hb hj;go_enter Tryz.func119,Tryz.ntmps119;go_wp2_with (first | (go_at_call 202;(with_reducible refine (hi).mono ?_);rintro e w1 ⟨rfl,rfl⟩) | (go_at_call 203;(with_reducible refine (hl).mono ?_);rintro e w1 ⟨rfl,rfl⟩) | fail "no arm");go_ret;exact ⟨rfl,rfl⟩
theorem fdget_any (h:qd1 307 w base g ga kind next ts) (hd:qa5 w base p D) (hs:base≤w.heap.size) (ha:qa8 w ga p.d f m) (hfm:f+m≤D.many) (hnm:next≤4096) (n:Int) :
    Calls Tryz.prog 210 #[.pointer (some ⟨g,0,none⟩),.int .i64 n] w fun e w' => ∃ B k d,e=.returned (.tuple #[.slice B k d,.int .i64 (ql5 D f m kind next ts n).2.2])∧Ow iv w' w.heap.size 3 B k d (ql5 D f m kind next ts n).2.1∧qa5 w' base p (ql5 D f m kind next ts n).1∧Step mutD base p w w':=by
  have his:=vs2 h;have HH:=hdd h;obtain ⟨gj,A,na,c,hb,hg,hj,hi⟩:=h;have c0:w.cell? ⟨g,0,none⟩=some (.pointer (some ⟨gj,0,none⟩)):=hb.cell 0;have hget:=jget_any hj hd hs ha hfm hnm n;have HB:=hdd hb;have HI:=hdd hi;have HD:=hdd hd;obtain ⟨R,hR⟩:∃ R,R=qv1 D f m kind next n:=⟨_,rfl⟩;rw [← hR] at hget;obtain ⟨X,hX⟩:∃ X,X=ql5 D f m kind next ts n:=⟨_,rfl⟩;have hXR:X=if R.2.2≠0 then (R.1,[],R.2.2) else if (qr2 ts R.2.1).2≠0 then (R.1,[],41) else (R.1,(qr2 ts R.2.1).1,0):=by rw [hX,hR];rfl
  rw [← hX];have HX:=hdd hXR;clear hb hi hd hj hX hR hXR;obtain ⟨D1,bs,z⟩:=R;simp only at hget HX
  by_cases hz:z=0
  · subst hz;have HX2:=hdd (show X=if (qr2 ts bs).2≠0 then (D1,[],41) else (D1,(qr2 ts bs).1,0) from by rw [HX.out,if_neg smp]);clear HX;have hrd:=fun (W:World) (B:Option Addr) (k d:Nat) (r1:RI W A na ts) (r2:RB W B k bs) (hk:k≤d) (hd:d≤maxLen) => read_row A B na k c d ts bs W r1 r2 HI.out.len hk hd
    generalize hrr:qr2 ts bs=rr at *;obtain ⟨l2,e2⟩:=rr;clear hrr;simp only at HX2
    by_cases he:e2=0
    · subst he;have HXX:=hdd (show X=(D1,l2,0) from by rw [HX2.out,if_neg smp]);clear HX2;go_enter Tryz.func210,Tryz.ntmps210;go_wp2_with (first | (go_at_call 202;(with_reducible refine (his).mono ?_);rintro e w1 ⟨rfl,rfl⟩) | ((go_at_call 252;(with_reducible refine (hget).mono ?_);rintro e w1 ⟨B1,k1,d1,rfl,o1,h1,st1⟩);have H1:=hdd h1;have ST1:=hdd st1;have I1:=hdd (HI.out.step HD.out st1 dcd);have OB1:=hdd o1;have cp:=o1.cap;have s1:=st1.size;have hbk:Blk w1 g 307 [.pointer (some ⟨gj,0,none⟩),.slice A na c]:=HD.out.blk HB.out st1.tch dcd;have x1:w1.cell? ⟨g,1,none⟩=some (.slice A na c):=hbk.cell 1;clear o1 h1 st1 hbk) | ((go_at_call 165;(with_reducible refine (hrd _ _ _ _ I1.out.ri OB1.out.rd.rb cp.1 cp.2).mono ?_);rintro e w2 ⟨B2,k2,d2,rfl,o2,b2⟩);have H2:=hdd (H1.out.below b2);have ST2:=hdd (ST1.out.then_below (b2.mono s1) hs);have O2:=hdd (o2.rebase (base':=w.heap.size) s1);clear o2 b2) | fail "no arm");go_ret2;rw [HXX.out];exact ⟨B2,k2,d2,rfl,O2.out,H2.out,ST2.out⟩
    · have heb:(e2 != 0)=true:=by rw [bne_iff_ne];exact he
      have heI:(((e2:Nat):Int) != 0)=true:=by rw [bne_iff_ne];omega
      have HXX:=hdd (show X=(D1,[],41) from by rw [HX2.out,if_pos he]);clear HX2 he;go_enter Tryz.func210,Tryz.ntmps210;go_wp2_with (first | (go_at_call 202;(with_reducible refine (his).mono ?_);rintro e w1 ⟨rfl,rfl⟩) | ((go_at_call 252;(with_reducible refine (hget).mono ?_);rintro e w1 ⟨B1,k1,d1,rfl,o1,h1,st1⟩);have H1:=hdd h1;have ST1:=hdd st1;have I1:=hdd (HI.out.step HD.out st1 dcd);have OB1:=hdd o1;have cp:=o1.cap;have s1:=st1.size;have hbk:Blk w1 g 307 [.pointer (some ⟨gj,0,none⟩),.slice A na c]:=HD.out.blk HB.out st1.tch dcd;have x1:w1.cell? ⟨g,1,none⟩=some (.slice A na c):=hbk.cell 1;clear o1 h1 st1 hbk) | ((go_at_call 165;(with_reducible refine (hrd _ _ _ _ I1.out.ri OB1.out.rd.rb cp.1 cp.2).mono ?_);rintro e w2 ⟨B2,k2,d2,rfl,o2,b2⟩);have H2:=hdd (H1.out.below b2);have ST2:=hdd (ST1.out.then_below (b2.mono s1) hs);clear o2 b2) | fail "no arm");go_ret2;rw [HXX.out];exact ⟨none,0,0,rfl,Ow.nil _ _ _ _,H2.out,ST2.out⟩
  · have hzb:(z != 0)=true:=by rw [bne_iff_ne];exact hz
    have HXX:=hdd (show X=(D1,[],z) from by rw [HX.out,if_pos hz]);clear HX hz;go_enter Tryz.func210,Tryz.ntmps210;go_wp2_with (first | (go_at_call 202;(with_reducible refine (his).mono ?_);rintro e w1 ⟨rfl,rfl⟩) | ((go_at_call 252;(with_reducible refine (hget).mono ?_);rintro e w1 ⟨B1,k1,d1,rfl,o1,h1,st1⟩);have H1:=hdd h1;have ST1:=hdd st1;clear o1 h1 st1) | fail "no arm");go_ret2;rw [HXX.out];exact ⟨none,0,0,rfl,Ow.nil _ _ _ _,H1.out,ST1.out⟩
end
theorem vj2 (f m:Nat):∀ (l:List Int) (D:qa1),(qm2 D f m l).1.many=D.many∧(qm2 D f m l).1.waits.length≤D.waits.length+l.length:=by
  intro l
  induction l with
  | nil => intro D;exact ⟨rfl,by simp [qm2]⟩
  | cons n l ih =>
    intro D;obtain ⟨a1,a2⟩:=qj9 D f m n qa3
    by_cases he:(qa9 D f m n qa3).2=0
    · rw [qv7 he];obtain ⟨h1,h2⟩:=ih (qa9 D f m n qa3).1;exact ⟨h1.trans a1,by rw [List.length_cons];omega⟩
    · rw [qv6 he];exact ⟨a1,by rw [List.length_cons];omega⟩
theorem vh1 (D:qa1):(qb0 D).1.many=D.many∧(qb0 D).1.waits.length≤D.waits.length:=by
  unfold qb0
  split
  · exact ⟨rfl,Nat.le_refl _⟩
  · split
    · exact ⟨rfl,by simp [qo3]⟩
    · exact ⟨rfl,by simp [vf5]⟩
theorem vb6 (D:qa1) (f m:Nat) (kind:Int):(qb7 D f m kind).1.many=D.many∧(qb7 D f m kind).1.waits.length≤D.waits.length+m∧(qb7 D f m kind).2.1≤m:=by
  obtain ⟨o,eo⟩:=qo8 D m;have hle:=vi2 D.now f kind m;obtain ⟨h1,h2⟩:=vj2 f m (qe8 D.now f kind m).2.2 (rdK D m);have e1:(rdK D m).many=D.many:=by rw [eo]
  have e2:(rdK D m).waits=D.waits:=by rw [eo]
  rw [e1] at h1;rw [e2] at h2;have f1:=vh1 (qp0 D f m kind).1;unfold qp0 at f1;unfold qb7;unfold qp0
  split
  · exact ⟨rfl,by simp,by simp⟩
  split
  · exact ⟨rfl,by simp,by simp⟩
  split
  · exact ⟨h1,Nat.le_trans h2 omg,by simp⟩
  split
  · exact ⟨h1,Nat.le_trans h2 omg,hle.1⟩
  split
  · exact ⟨f1.1.trans h1,Nat.le_trans f1.2 (Nat.le_trans h2 omg),by simp⟩
  · exact ⟨f1.1.trans h1,Nat.le_trans f1.2 (Nat.le_trans h2 omg),hle.1⟩
theorem aPutV_few (D:qa1) (f m:Nat) (n kind number:Int) (l:List UInt8):(qh1 D f m n kind number l).1.many=D.many∧(qh1 D f m n kind number l).1.waits.length≤D.waits.length+1:=by
  unfold qh1
  split
  · exact ⟨rfl,by simp⟩
  · exact qj9 D f m n _
theorem jAddV_few (D:qa1) (f m:Nat) (kind:Int) (next:Nat) (l:List UInt8) (hn:next≤m):(qh8 D f m kind next l).1.many=D.many∧(qh8 D f m kind next l).1.waits.length≤D.waits.length+1∧(qh8 D f m kind next l).2.1≤m:=by
  obtain ⟨h1,h2⟩:=aPutV_few D f m next kind next l;unfold qh8
  split
  · exact ⟨rfl,by simp,hn⟩
  split
  · exact ⟨rfl,by simp,hn⟩
  split
  · exact ⟨h1,h2,hn⟩
  · exact ⟨h1,h2,by show next+1≤m;omega⟩
theorem aReadV_few (D:qa1) (f m:Nat) (n:Int):(qb4 D f m n).1.many=D.many∧(qb4 D f m n).1.waits.length≤D.waits.length:=by
  unfold qb4 qt2
  split
  · exact ⟨rfl,Nat.le_refl _⟩
  · split
    · exact ⟨rfl,Nat.le_refl _⟩
    · exact ⟨rfl,by simp [qj0]⟩
def qs4 (t:TypeId) (w:World) (base lo g ga:Nat) (kind:Int) (next:Nat) (ts:List Int):Prop :=
  ∃ gj A n c,Blk w g t [.pointer (some ⟨gj,0,none⟩),.slice A n c]∧base≤gj∧qi9 w gj ga kind next∧qf9 w base A n ts∧∀ b,A.map (·.block)=some b→lo≤b
theorem qs4.at_ {t:TypeId} {w:World} {base lo g ga next:Nat} {kind:Int} {ts:List Int} (H:qs4 t w base lo g ga kind next ts):qd1 t w base g ga kind next ts:=by
  obtain ⟨gj,A,n,c,h1,h2,h3,h4,_⟩:=H;exact ⟨gj,A,n,c,h1,h2,h3,h4⟩
theorem qs4.step {M:List TypeId} {t:TypeId} {w w':World} {base lo g ga next:Nat} {kind:Int} {ts:List Int} {p:qb9} {D:qa1} (H:qs4 t w base lo g ga kind next ts) (hd:qa5 w base p D) (k:Step M base p w w') (h1:t ∉ 4 :: M) (h2:363 ∉ 4 :: M) (h3:3 ∉ 4 :: M):qs4 t w' base lo g ga kind next ts:=by
  obtain ⟨gj,A,n,c,hb,hg,hj,hi,hl⟩:=H;exact ⟨gj,A,n,c,hd.blk hb k.tch h1,hg,hd.blk hj k.tch h2,hi.step hd k h3,hl⟩
def qp1 (t:TypeId) (w:World) (base ga:Nat) (kind:Int) (ts:List Int) (p:qb9) (R:qa1 × Nat × Int) (e:Ending) (w':World):Prop :=
  ∃ P,e=.returned (.tuple #[.pointer P,.int .i64 R.2.2])∧(R.2.2≠0→P=none)∧(R.2.2=0→∃ g,P=some ⟨g,0,none⟩∧w.heap.size≤g∧qs4 t w' base w.heap.size g ga kind R.2.1 ts)∧qa5 w' base p R.1∧Step mutD base p w w'
section
variable {t:TypeId} {w w':World} {base ga g next:Nat} {kind z:Int} {ts:List Int} {p:qb9} {D:qa1}
theorem qp1.no (hz:z≠0) (hd:qa5 w' base p D) (hs:Step mutD base p w w'):qp1 t w base ga kind ts p (D,0,z) (.returned (.tuple #[.pointer none,.int .i64 z])) w' :=
  ⟨none,rfl,fun _ => rfl,fun e => absurd e hz,hd,hs⟩
theorem qp1.yes (hg:w.heap.size≤g) (hj:qs4 t w' base w.heap.size g ga kind next ts) (hd:qa5 w' base p D) (hs:Step mutD base p w w'):qp1 t w base ga kind ts p (D,next,0) (.returned (.tuple #[.pointer (some ⟨g,0,none⟩),.int .i64 0])) w' :=
  ⟨_,rfl,fun e => absurd rfl e,fun _ => ⟨g,rfl,hg,hj⟩,hd,hs⟩
end
theorem fGetV_many (D:qa1) (f m:Nat) (kind:Int) (next:Nat) (ts:List Int) (n:Int):(ql5 D f m kind next ts n).1.many=D.many:=by
  obtain ⟨o,e⟩:=qy1 D f m kind next ts n;rw [e]
theorem vp1 (D:qa1) (f m:Nat) (kind:Int) (next:Nat) (ts:List Int) (k:Nat):(qm1 D f m kind next ts k).1.many=D.many:=by
  obtain ⟨o,e⟩:=vk9 D f m kind next ts k;rw [e]
theorem vp0 {D Dk:qa1} {f m:Nat} {kind:Int} {next:Nat} {ts:List Int} {k:Nat} (h:qm1 D f m kind next ts k=(Dk,0)) :
    qm1 D f m kind next ts (k+1)=((ql5 Dk f m kind next ts (k:Int)).1,(ql5 Dk f m kind next ts (k:Int)).2.2):=by
  show (if (qm1 D f m kind next ts k).2≠0 then _ else _)=_
  rw [h];simp
theorem qd1.partsF {t:TypeId} {w:World} {base g ga next:Nat} {kind:Int} {ts:List Int} (h:qd1 t w base g ga kind next ts) :
    ∃ gj A n c,Blk w g t [.pointer (some ⟨gj,0,none⟩),.slice A n c]∧base≤gj∧qi9 w gj ga kind next∧qf9 w base A n ts∧w.cell? ⟨g,0,none⟩=some (.pointer (some ⟨gj,0,none⟩))∧w.cell? ⟨g,1,none⟩=some (.slice A n c):=by
  obtain ⟨gj,A,n,c,hb,hg,hj,hi⟩:=h;exact ⟨gj,A,n,c,hb,hg,hj,hi,hb.cell 0,hb.cell 1⟩
def OthK (kind:Int) (w w':World):Prop:=∀ gj ga k n,k≠kind→qi9 w gj ga k n→qi9 w' gj ga k n
theorem OthK.refl (kind:Int) (w:World):OthK kind w w:=fun _ _ _ _ _ h => h
theorem OthK.trans {kind:Int} {w w' w'':World} (h:OthK kind w w') (k:OthK kind w' w''):OthK kind w w'':=fun gj ga q n e x => k gj ga q n e (h gj ga q n e x)
theorem OthK.of_below {kind:Int} {w w':World} (hb:Below w.heap.size w w'):OthK kind w w':=fun gj ga q n e x => Blk.below x hb (Blk.lt x)
theorem OthK.of_step {M:List TypeId} {kind:Int} {w w':World} {base:Nat} {p:qb9} {D:qa1} (hd:qa5 w base p D) (st:Step M base p w w') (ht:363 ∉ 4 :: M):OthK kind w w':=fun gj ga q n e x => hd.blk x st.tch ht
theorem OthK.one {kind:Int} {w:World} {gj ga n:Nat} (h:qi9 w gj ga kind n) (i:Nat) (v:Value):OthK kind w (w.setCell ⟨gj,i,none⟩ v):=fun g ga' k n' hne x => by
  have e1:w.cell? ⟨g,1,none⟩=some (.int .i64 k):=Blk.cell x 1;have e2:w.cell? ⟨gj,1,none⟩=some (.int .i64 kind):=Blk.cell h 1;refine Blk.far (p:=⟨gj,i,none⟩) x (fun e => hne ?_) v;have e:g=gj:=e;subst e;rw [e1] at e2;injection e2 with e2;injection e2
section
variable {w w':World} {base ga gj f m next:Nat} {kind:Int} {p:qb9} {D:qa1}
theorem jaddO_any (h:qi9 w gj ga kind next) (hd:qa5 w base p D) (hs:base≤w.heap.size) (hg:base≤gj) (ha:qa8 w ga p.d f m) (hfm:f+m≤D.many) (hm:m≤4096) (hnm:next≤m) (hw:D.waits.length<1000000) (B:Option Addr) (k d:Nat) (l:List UInt8) (hl:RB w B k l) (hk:k≤maxLen) :
    Calls Tryz.prog 206 #[.pointer (some ⟨gj,0,none⟩),.slice B k d] w fun e w' => e=.returned (.tuple #[.int .i64 (qh8 D f m kind next l).2.2.1,.int .i64 (qh8 D f m kind next l).2.2.2])∧qa5 w' base p (qh8 D f m kind next l).1∧qi9 w' gj ga kind (qh8 D f m kind next l).2.1∧Step mutJ base p w w'∧OthK kind w w':=by
  have c0:w.cell? ⟨gj,0,none⟩=some (.pointer (some ⟨ga,0,none⟩)):=Blk.cell h 0;have c1:w.cell? ⟨gj,1,none⟩=some (.int .i64 kind):=Blk.cell h 1;have c2:w.cell? ⟨gj,2,none⟩=some (.int .i64 (next:Int)):=Blk.cell h 2;have his:=vk7 h;have hlen:=hl.1;have HD:=hdd hd;have HJ:=hdd h;unfold qh8;unfold maxLen at hk
  by_cases h1:113<l.length
  · rw [if_pos h1];rw [hlen] at h1;clear h hd ha hl;go_enter Tryz.func206,Tryz.ntmps206;go_wp2_with (first | (go_at_call 261;(with_reducible refine (his).mono ?_);rintro e w1 ⟨rfl,rfl⟩) | fail "no arm");go_ret2;exact ⟨rfl,HD.out,HJ.out,Step.refl _ _ _ _,OthK.refl _ _⟩
  · rw [if_neg h1];rw [hlen] at h1;have hroom:=jroom_any h ha hm hnm
    by_cases h2:m=next
    · rw [if_pos h2];subst h2;have hz:((m:Int) - m)=0:=omg;rw [hz] at hroom;clear h hd ha hl hz;go_enter Tryz.func206,Tryz.ntmps206;go_wp2_with (first | (go_at_call 261;(with_reducible refine (his).mono ?_);rintro e w1 ⟨rfl,rfl⟩) | (go_at_call 262;(with_reducible refine (hroom).mono ?_);rintro e w2 ⟨rfl,q2,rfl⟩) | fail "no arm");go_ret2;have hb:Below w.heap.size w (w.drewN q2):=below_drewN (Below.refl _ _) q2;exact ⟨rfl,HD.out.below hb,Blk.drewN HJ.out q2,Step.of_below hb hs,OthK.of_below hb⟩
    · rw [if_neg h2];have hz:((m:Int) - next == 0)=false:=by rw [beq_eq_false_iff_ne];omega
      have hput:=fun q => s_aput (w:=w.drewN q) (d:=d) (hd.below (below_drewN (Below.refl _ _) q)) hs (ga:=ga) (f:=f) (m:=m) (Blk.drewN ha q) hfm next kind next B k l (hl.below (below_drewN (Below.refl _ _) q) nlr) uml omg hw
      generalize qh1 D f m next kind next l=P at *;obtain ⟨D',z⟩:=P;simp only at hput ⊢
      by_cases hzz:z=0
      · subst hzz; rw [if_neg smp]; clear h hd ha hl h2; go_enter Tryz.func206, Tryz.ntmps206; go_wp2_with (first | (go_at_call 261; (with_reducible refine (his).mono ?_); rintro e w1 ⟨rfl, rfl⟩) | (go_at_call 262; (with_reducible refine (hroom).mono ?_); rintro e w2 ⟨rfl, q2, rfl⟩) | fail "no arm"); go_region_held3 (fun w' => w'.cell? ⟨gj, 0, none⟩ = some (.pointer (some ⟨ga, 0, none⟩)) ∧ w'.cell? ⟨gj, 1, none⟩ = some (.int .i64 kind)) (first | go_keep | (refine ⟨?_, ?_⟩ <;> assumption)) (first | ((go_at_call 115; (with_reducible refine (hput (q2 + 1)).mono ?_); rintro e w3 ⟨rfl, h3, s3⟩); have hj3 := (HD.out.below (below_drewN (Below.refl _ _) (q2 + 1))).blk (Blk.drewN HJ.out (q2 + 1)) s3.tch dcd; have y0 : w3.cell? ⟨gj, 0, none⟩ = some (.pointer (some ⟨ga, 0, none⟩)) := hj3.cell 0; have y1 : w3.cell? ⟨gj, 1, none⟩ = some (.int .i64 kind) := hj3.cell 1; have y2 : w3.cell? ⟨gj, 2, none⟩ = some (.int .i64 (next : Int)) := hj3.cell 2; have f2 := hj3.frozen 2; have S3 : Step mutJ base p w w3 := ((Step.of_below (M := mutD) (below_drewN (Below.refl _ _) (q2 + 1)) hs).trans s3).mono (fun _ e => List.mem_cons_of_mem _ e)) | fail "no arm"); go_wp2; go_ret2; have oth3 : OthK kind w w3 := (OthK.of_below (below_drewN (Below.refl _ _) (q2 + 1))).trans (OthK.of_step (HD.out.below (below_drewN (Below.refl _ _) (q2 + 1))) s3 dcd); have hset : Blk (w3.setCell ⟨gj, 2, none⟩ (.int .i64 ((next : Int) + 1))) gj 363 (jrnC ga kind (next + 1)) := Blk.set_ hj3 2 _; have st : Step mutJ base p w3 (w3.setCell ⟨gj, 2, none⟩ (.int .i64 ((next : Int) + 1))) := Step.one (qb5 _) hj3 (List.mem_cons_self ..) hg (by have := S3.size; omega); obtain ⟨A9, c9, h9⟩ := h3; have hnf : ¬ foot p A9 gj := fun e => by rcases h9.foot_ty hj3 e with q | q | q | q | q <;> exact absurd q dcd
        exact ⟨rfl,⟨A9,c9,h9.keep (F:=(·=gj)) (Keep.one (qb5 _)) (fun g hg e => hnf (e ▸ hg))⟩,hset,S3.trans st,oth3.trans (OthK.one hj3 2 _)⟩
      · rw [if_pos hzz];have hne:(z != 0)=true:=by rw [bne_iff_ne];exact hzz
        clear h hd ha hl h2 hzz; go_enter Tryz.func206, Tryz.ntmps206; go_wp2_with (first | (go_at_call 261; (with_reducible refine (his).mono ?_); rintro e w1 ⟨rfl, rfl⟩) | (go_at_call 262; (with_reducible refine (hroom).mono ?_); rintro e w2 ⟨rfl, q2, rfl⟩) | fail "no arm"); go_region_held3 (fun w' => w'.cell? ⟨gj, 0, none⟩ = some (.pointer (some ⟨ga, 0, none⟩)) ∧ w'.cell? ⟨gj, 1, none⟩ = some (.int .i64 kind)) (first | go_keep | (refine ⟨?_, ?_⟩ <;> assumption)) (first | ((go_at_call 115; (with_reducible refine (hput (q2 + 1)).mono ?_); rintro e w3 ⟨rfl, h3, s3⟩); have hj3 := (HD.out.below (below_drewN (Below.refl _ _) (q2 + 1))).blk (Blk.drewN HJ.out (q2 + 1)) s3.tch dcd; have y0 : w3.cell? ⟨gj, 0, none⟩ = some (.pointer (some ⟨ga, 0, none⟩)) := hj3.cell 0; have y1 : w3.cell? ⟨gj, 1, none⟩ = some (.int .i64 kind) := hj3.cell 1; have y2 : w3.cell? ⟨gj, 2, none⟩ = some (.int .i64 (next : Int)) := hj3.cell 2; have f2 := hj3.frozen 2; have S3 : Step mutJ base p w w3 := ((Step.of_below (M := mutD) (below_drewN (Below.refl _ _) (q2 + 1)) hs).trans s3).mono (fun _ e => List.mem_cons_of_mem _ e)) | fail "no arm"); go_wp2; go_ret2; have oth3 : OthK kind w w3 := (OthK.of_below (below_drewN (Below.refl _ _) (q2 + 1))).trans (OthK.of_step (HD.out.below (below_drewN (Below.refl _ _) (q2 + 1))) s3 dcd); exact ⟨rfl, h3, hj3, S3, oth3⟩
end
section
variable {w w':World} {base g ga f m next:Nat} {kind:Int} {ts l:List Int} {p:qb9} {D:qa1}
theorem fdaddO_any (h:qd1 307 w base g ga kind next ts) (hd:qa5 w base p D) (hs:base≤w.heap.size) (ha:qa8 w ga p.d f m) (hfm:f+m≤D.many) (hm:m≤4096) (hnm:next≤m) (hw:D.waits.length<900000) (hr:qg8 ts=true) (B:Option Addr) (k d:Nat) (hl:RI w B k l) (hk:k≤maxLen) (hi:qz3 l) :
    Calls Tryz.prog 123 #[.pointer (some ⟨g,0,none⟩),.slice B k d] w fun e w' => e=.returned (.tuple #[.int .i64 (qn2 D f m kind next ts l).2.2.1,.int .i64 (qn2 D f m kind next ts l).2.2.2])∧qa5 w' base p (qn2 D f m kind next ts l).1∧qd1 307 w' base g ga kind (qn2 D f m kind next ts l).2.1 ts∧Step mutJ base p w w'∧OthK kind w w':=by
  have his:=vs2 h;have HJR:=hdd h;obtain ⟨gj,A,n,c,hb,hg,hj,hi2,c0,c1⟩:=h.partsF;have hun:qn2 D f m kind next ts l=if (qh0 D f m kind next ts l).2.2.2≠0 then ((qh0 D f m kind next ts l).1,(qh0 D f m kind next ts l).2.1,0,(qh0 D f m kind next ts l).2.2.2)
    else if (qb0 (qh0 D f m kind next ts l).1).2≠0 then ((qb0 (qh0 D f m kind next ts l).1).1,(qh0 D f m kind next ts l).2.1,0,(qb0 (qh0 D f m kind next ts l).1).2)
    else ((qb0 (qh0 D f m kind next ts l).1).1,(qh0 D f m kind next ts l).2.1,(qh0 D f m kind next ts l).2.2.1,0):=rfl
  have hput:qh0 D f m kind next ts l=if qh6 ts l=false then (D,next,0,41) else qh8 D f m kind next (rowB ts l ts.length):=rfl;have HB:=hdd hb;have HJ:=hdd hj;have HI:=hdd hi2;have HD:=hdd hd;have HA:=hdd ha
  cases hf:qh6 ts l with
  | false =>
    rw [if_pos hf] at hput;rw [hput,if_pos smp] at hun;rw [hun];have hwr:=write_row A B n k c d ts l w hi2.ri hl hi2.len hk hr hf;clear hb hj hi2 hd ha h hl hi hf hput hun;go_enter Tryz.func123,Tryz.ntmps123;go_wp2_with (first | (go_at_call 202;(with_reducible refine (his).mono ?_);rintro e w1 ⟨rfl,rfl⟩) | (go_at_call 205;(with_reducible refine (hwr).mono ?_);rintro e w1 ⟨rfl,rfl⟩) | fail "no arm");go_ret2;exact ⟨rfl,HD.out,HJR.out,Step.refl _ _ _ _,OthK.refl _ _⟩
  | true =>
    rw [if_neg (by rw [hf];simp)] at hput;have hwr:=vk0 A B n k c d ts l w hi2.ri hl hi2.len hk hf hi;have hadd:=fun (W:World) (C:Option Addr) (N e:Nat) (h1:qi9 W gj ga kind next) (h2:qa5 W base p D) (h3:base≤W.heap.size) (h4:qa8 W ga p.d f m) (h5:RB W C N (rowB ts l ts.length)) (h6:N≤maxLen) => jaddO_any h1 h2 h3 hg h4 hfm hm hnm omg C N e _ h5 h6
    rw [← hput] at hadd;generalize qh0 D f m kind next ts l=R at *;obtain ⟨D1,n1,v1,z1⟩:=R;simp only at hun hadd;generalize qn2 D f m kind next ts l=S at *;clear hb hj hi2 hd ha h hl hi hf hput hw
    by_cases hz:z1=0
    · subst hz;rw [if_neg smp] at hun;have hfl:=fun (W:World) (h1:qi9 W gj ga kind n1) (h2:qa5 W base p D1) (h3:base≤W.heap.size) (h4:qa8 W ga p.d f m) => vo3 h1 h2 h3 h4
      generalize qb0 D1=F at *;obtain ⟨D2,z2⟩:=F;simp only at hun hfl
      by_cases hz2:z2=0
      · subst hz2;rw [if_neg smp] at hun;subst hun;go_enter Tryz.func123,Tryz.ntmps123;go_wp2_with (first | (go_at_call 202;(with_reducible refine (his).mono ?_);rintro e w1 ⟨rfl,rfl⟩) | ((go_at_call 205;(with_reducible refine (hwr).mono ?_);rintro e w1 ⟨C1,N1,d1,rfl,o1,b1⟩);have J1:=hdd (HJ.out.below b1);have H1:=hdd (HD.out.below b1);have A1:=hdd (show qa8 w1 ga p.d f m from Blk.below HA.out b1 (Blk.lt HA.out));have B1:=hdd (Blk.below HB.out b1 (Blk.lt HB.out));have I1:=hdd (HI.out.below b1);have O1:=hdd o1;have s1:=b1.size;have cp1:=o1.cap;have ST1:=hdd (Step.of_below (M:=mutJ) (base:=base) (p:=p) b1 hs);have e1:w1.cell? ⟨g,0,none⟩=some (.pointer (some ⟨gj,0,none⟩)):=B1.out.cell 0;have Q1:=hdd (OthK.of_below (kind:=kind) b1);clear o1 b1) | ((go_at_call 206;(with_reducible refine (hadd _ _ _ _ J1.out H1.out omg A1.out O1.out.rd.rb omg).mono ?_);rintro e w2 ⟨rfl,h2,j2,st2,q2⟩);have H2:=hdd h2;have J2:=hdd j2;have B2:=hdd (H1.out.blk B1.out st2.tch dcd);have A2:=hdd (H1.out.area A1.out st2.tch dcd);have I2:=hdd (I1.out.step H1.out st2 dcd);have ST2:=hdd (ST1.out.trans st2);have s2:=st2.size;have R2:=hdd (show qd1 307 w2 base g ga kind n1 ts from ⟨gj,A,n,c,B2.out,hg,J2.out,I2.out⟩);have e2:w2.cell? ⟨g,0,none⟩=some (.pointer (some ⟨gj,0,none⟩)):=B2.out.cell 0;have Q2:=hdd (Q1.out.trans q2);clear h2 j2 st2 q2) | ((go_at_call 207;(with_reducible refine (hfl _ J2.out H2.out omg A2.out).mono ?_);rintro e w3 ⟨rfl,h3,st3⟩);have H3:=hdd h3;have ST3:=hdd (ST2.out.trans (st3.mono (fun t ht => List.mem_cons_of_mem _ ht)));have R3:=hdd (R2.out.step H2.out st3 dcd dcd dcd);have Q3:=hdd (Q2.out.trans (OthK.of_step H2.out st3 dcd));clear h3 st3) | fail "no arm");go_ret2;exact ⟨rfl,H3.out,R3.out,ST3.out,Q3.out⟩
      · have hzb:(z2 != 0)=true:=by rw [bne_iff_ne];exact hz2
        rw [if_pos hz2] at hun;subst hun;clear hz2;go_enter Tryz.func123,Tryz.ntmps123;go_wp2_with (first | (go_at_call 202;(with_reducible refine (his).mono ?_);rintro e w1 ⟨rfl,rfl⟩) | ((go_at_call 205;(with_reducible refine (hwr).mono ?_);rintro e w1 ⟨C1,N1,d1,rfl,o1,b1⟩);have J1:=hdd (HJ.out.below b1);have H1:=hdd (HD.out.below b1);have A1:=hdd (show qa8 w1 ga p.d f m from Blk.below HA.out b1 (Blk.lt HA.out));have B1:=hdd (Blk.below HB.out b1 (Blk.lt HB.out));have I1:=hdd (HI.out.below b1);have O1:=hdd o1;have s1:=b1.size;have cp1:=o1.cap;have ST1:=hdd (Step.of_below (M:=mutJ) (base:=base) (p:=p) b1 hs);have e1:w1.cell? ⟨g,0,none⟩=some (.pointer (some ⟨gj,0,none⟩)):=B1.out.cell 0;have Q1:=hdd (OthK.of_below (kind:=kind) b1);clear o1 b1) | ((go_at_call 206;(with_reducible refine (hadd _ _ _ _ J1.out H1.out omg A1.out O1.out.rd.rb omg).mono ?_);rintro e w2 ⟨rfl,h2,j2,st2,q2⟩);have H2:=hdd h2;have J2:=hdd j2;have B2:=hdd (H1.out.blk B1.out st2.tch dcd);have A2:=hdd (H1.out.area A1.out st2.tch dcd);have I2:=hdd (I1.out.step H1.out st2 dcd);have ST2:=hdd (ST1.out.trans st2);have s2:=st2.size;have R2:=hdd (show qd1 307 w2 base g ga kind n1 ts from ⟨gj,A,n,c,B2.out,hg,J2.out,I2.out⟩);have e2:w2.cell? ⟨g,0,none⟩=some (.pointer (some ⟨gj,0,none⟩)):=B2.out.cell 0;have Q2:=hdd (Q1.out.trans q2);clear h2 j2 st2 q2) | ((go_at_call 207;(with_reducible refine (hfl _ J2.out H2.out omg A2.out).mono ?_);rintro e w3 ⟨rfl,h3,st3⟩);have H3:=hdd h3;have ST3:=hdd (ST2.out.trans (st3.mono (fun t ht => List.mem_cons_of_mem _ ht)));have R3:=hdd (R2.out.step H2.out st3 dcd dcd dcd);have Q3:=hdd (Q2.out.trans (OthK.of_step H2.out st3 dcd));clear h3 st3) | fail "no arm");go_ret2;exact ⟨rfl,H3.out,R3.out,ST3.out,Q3.out⟩
    · have hzb:(z1 != 0)=true:=by rw [bne_iff_ne];exact hz
      rw [if_pos hz] at hun;subst hun;clear hz;go_enter Tryz.func123,Tryz.ntmps123;go_wp2_with (first | (go_at_call 202;(with_reducible refine (his).mono ?_);rintro e w1 ⟨rfl,rfl⟩) | ((go_at_call 205;(with_reducible refine (hwr).mono ?_);rintro e w1 ⟨C1,N1,d1,rfl,o1,b1⟩);have J1:=hdd (HJ.out.below b1);have H1:=hdd (HD.out.below b1);have A1:=hdd (show qa8 w1 ga p.d f m from Blk.below HA.out b1 (Blk.lt HA.out));have B1:=hdd (Blk.below HB.out b1 (Blk.lt HB.out));have I1:=hdd (HI.out.below b1);have O1:=hdd o1;have s1:=b1.size;have cp1:=o1.cap;have ST1:=hdd (Step.of_below (M:=mutJ) (base:=base) (p:=p) b1 hs);have e1:w1.cell? ⟨g,0,none⟩=some (.pointer (some ⟨gj,0,none⟩)):=B1.out.cell 0;have Q1:=hdd (OthK.of_below (kind:=kind) b1);clear o1 b1) | ((go_at_call 206;(with_reducible refine (hadd _ _ _ _ J1.out H1.out omg A1.out O1.out.rd.rb omg).mono ?_);rintro e w2 ⟨rfl,h2,j2,st2,q2⟩);have H2:=hdd h2;have J2:=hdd j2;have B2:=hdd (H1.out.blk B1.out st2.tch dcd);have A2:=hdd (H1.out.area A1.out st2.tch dcd);have I2:=hdd (I1.out.step H1.out st2 dcd);have ST2:=hdd (ST1.out.trans st2);have s2:=st2.size;have R2:=hdd (show qd1 307 w2 base g ga kind n1 ts from ⟨gj,A,n,c,B2.out,hg,J2.out,I2.out⟩);have e2:w2.cell? ⟨g,0,none⟩=some (.pointer (some ⟨gj,0,none⟩)):=B2.out.cell 0;have Q2:=hdd (Q1.out.trans q2);clear h2 j2 st2 q2) | fail "no arm");go_ret2;exact ⟨rfl,H2.out,R2.out,ST2.out,Q2.out⟩
end
end Go.Proofs.YtmeebofhlilcmaaGreat
