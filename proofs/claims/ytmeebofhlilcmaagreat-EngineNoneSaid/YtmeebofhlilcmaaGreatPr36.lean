/- Parts: SinkA, SinkC, SinkO. -/
import Derived.Test.YtmeebofhlilcmaaGreatPr02
import Derived.Test.YtmeebofhlilcmaaGreatPr33
import Derived.Deep.DeepCutAuto
import Derived.Deep.CutBlock
import Derived.Test.YtmeebofhlilcmaaGreatPr35
set_option linter.unusedVariables false
set_option linter.unusedSimpArgs false
set_option maxRecDepth 100000
set_option maxHeartbeats 40000000
namespace Go.Proofs.YtmeebofhlilcmaaGreat
open Go.RowKit
section
variable {w w':World} {base g ga f m next:Nat} {kind:Int} {ts:List Int} {p:qb9} {D:qa1}
theorem vi1 (h:qd1 310 w base g ga kind next ts):Calls Tryz.prog 204 #[.pointer (some ⟨g,0,none⟩)] w fun e w' => e=.returned (.bool true)∧w=w':=by
  obtain ⟨gj,A,n,c,hb,hg,hj,hi⟩:=h;have c0:w.cell? ⟨g,0,none⟩=some (.pointer (some ⟨gj,0,none⟩)):=hb.cell 0;clear hb hj hi;go_enter Tryz.func204,Tryz.ntmps204;go_wp2;go_ret;exact ⟨rfl,rfl⟩
theorem ve7 (h:qd1 310 w base g ga kind next ts):Calls Tryz.prog 120 #[.pointer (some ⟨g,0,none⟩)] w fun e w' => e=.returned (.int .i64 (next:Nat))∧w=w':=by
  have hi:=vi1 h;obtain ⟨gj,A,n,c,hb,hg,hj,_⟩:=h;have c0:w.cell? ⟨g,0,none⟩=some (.pointer (some ⟨gj,0,none⟩)):=hb.cell 0;have hl:=vf3 hj;clear hb hj;go_enter Tryz.func120,Tryz.ntmps120;go_wp2_with (first | (go_at_call 204;(with_reducible refine (hi).mono ?_);rintro e w1 ⟨rfl,rfl⟩) | (go_at_call 203;(with_reducible refine (hl).mono ?_);rintro e w1 ⟨rfl,rfl⟩) | fail "no arm");go_ret;exact ⟨rfl,rfl⟩
theorem skget_any (h:qd1 310 w base g ga kind next ts) (hd:qa5 w base p D) (hs:base≤w.heap.size) (ha:qa8 w ga p.d f m) (hfm:f+m≤D.many) (hnm:next≤4096) (n:Int) :
    Calls Tryz.prog 189 #[.pointer (some ⟨g,0,none⟩),.int .i64 n] w fun e w' => ∃ B k d,e=.returned (.tuple #[.slice B k d,.int .i64 (ql5 D f m kind next ts n).2.2])∧Ow iv w' w.heap.size 3 B k d (ql5 D f m kind next ts n).2.1∧qa5 w' base p (ql5 D f m kind next ts n).1∧Step mutD base p w w':=by
  have his:=vi1 h;have HH:=hdd h;obtain ⟨gj,A,na,c,hb,hg,hj,hi⟩:=h;have c0:w.cell? ⟨g,0,none⟩=some (.pointer (some ⟨gj,0,none⟩)):=hb.cell 0;have hget:=jget_any hj hd hs ha hfm hnm n;have HB:=hdd hb;have HI:=hdd hi;have HD:=hdd hd;obtain ⟨R,hR⟩:∃ R,R=qv1 D f m kind next n:=⟨_,rfl⟩;rw [← hR] at hget;obtain ⟨X,hX⟩:∃ X,X=ql5 D f m kind next ts n:=⟨_,rfl⟩;have hXR:X=if R.2.2≠0 then (R.1,[],R.2.2) else if (qr2 ts R.2.1).2≠0 then (R.1,[],41) else (R.1,(qr2 ts R.2.1).1,0):=by rw [hX,hR];rfl
  rw [← hX];have HX:=hdd hXR;clear hb hi hd hj hX hR hXR;obtain ⟨D1,bs,z⟩:=R;simp only at hget HX
  by_cases hz:z=0
  · subst hz;have HX2:=hdd (show X=if (qr2 ts bs).2≠0 then (D1,[],41) else (D1,(qr2 ts bs).1,0) from by rw [HX.out,if_neg smp]);clear HX;have hrd:=fun (W:World) (B:Option Addr) (k d:Nat) (r1:RI W A na ts) (r2:RB W B k bs) (hk:k≤d) (hd:d≤maxLen) => read_row A B na k c d ts bs W r1 r2 HI.out.len hk hd
    generalize hrr:qr2 ts bs=rr at *;obtain ⟨l2,e2⟩:=rr;clear hrr;simp only at HX2
    by_cases he:e2=0
    · subst he;have HXX:=hdd (show X=(D1,l2,0) from by rw [HX2.out,if_neg smp]);clear HX2;go_enter Tryz.func189,Tryz.ntmps189;go_wp2_with (first | (go_at_call 204;(with_reducible refine (his).mono ?_);rintro e w1 ⟨rfl,rfl⟩) | ((go_at_call 252;(with_reducible refine (hget).mono ?_);rintro e w1 ⟨B1,k1,d1,rfl,o1,h1,st1⟩);have H1:=hdd h1;have ST1:=hdd st1;have I1:=hdd (HI.out.step HD.out st1 dcd);have OB1:=hdd o1;have cp:=o1.cap;have s1:=st1.size;have hbk:Blk w1 g 310 [.pointer (some ⟨gj,0,none⟩),.slice A na c]:=HD.out.blk HB.out st1.tch dcd;have x1:w1.cell? ⟨g,1,none⟩=some (.slice A na c):=hbk.cell 1;clear o1 h1 st1 hbk) | ((go_at_call 165;(with_reducible refine (hrd _ _ _ _ I1.out.ri OB1.out.rd.rb cp.1 cp.2).mono ?_);rintro e w2 ⟨B2,k2,d2,rfl,o2,b2⟩);have H2:=hdd (H1.out.below b2);have ST2:=hdd (ST1.out.then_below (b2.mono s1) hs);have O2:=hdd (o2.rebase (base':=w.heap.size) s1);clear o2 b2) | fail "no arm");go_ret2;rw [HXX.out];exact ⟨B2,k2,d2,rfl,O2.out,H2.out,ST2.out⟩
    · have heb:(e2 != 0)=true:=by rw [bne_iff_ne];exact he
      have heI:(((e2:Nat):Int) != 0)=true:=by rw [bne_iff_ne];omega
      have HXX:=hdd (show X=(D1,[],41) from by rw [HX2.out,if_pos he]);clear HX2 he;go_enter Tryz.func189,Tryz.ntmps189;go_wp2_with (first | (go_at_call 204;(with_reducible refine (his).mono ?_);rintro e w1 ⟨rfl,rfl⟩) | ((go_at_call 252;(with_reducible refine (hget).mono ?_);rintro e w1 ⟨B1,k1,d1,rfl,o1,h1,st1⟩);have H1:=hdd h1;have ST1:=hdd st1;have I1:=hdd (HI.out.step HD.out st1 dcd);have OB1:=hdd o1;have cp:=o1.cap;have s1:=st1.size;have hbk:Blk w1 g 310 [.pointer (some ⟨gj,0,none⟩),.slice A na c]:=HD.out.blk HB.out st1.tch dcd;have x1:w1.cell? ⟨g,1,none⟩=some (.slice A na c):=hbk.cell 1;clear o1 h1 st1 hbk) | ((go_at_call 165;(with_reducible refine (hrd _ _ _ _ I1.out.ri OB1.out.rd.rb cp.1 cp.2).mono ?_);rintro e w2 ⟨B2,k2,d2,rfl,o2,b2⟩);have H2:=hdd (H1.out.below b2);have ST2:=hdd (ST1.out.then_below (b2.mono s1) hs);clear o2 b2) | fail "no arm");go_ret2;rw [HXX.out];exact ⟨none,0,0,rfl,Ow.nil _ _ _ _,H2.out,ST2.out⟩
  · have hzb:(z != 0)=true:=by rw [bne_iff_ne];exact hz
    have HXX:=hdd (show X=(D1,[],z) from by rw [HX.out,if_pos hz]);clear HX hz;go_enter Tryz.func189,Tryz.ntmps189;go_wp2_with (first | (go_at_call 204;(with_reducible refine (his).mono ?_);rintro e w1 ⟨rfl,rfl⟩) | ((go_at_call 252;(with_reducible refine (hget).mono ?_);rintro e w1 ⟨B1,k1,d1,rfl,o1,h1,st1⟩);have H1:=hdd h1;have ST1:=hdd st1;clear o1 h1 st1) | fail "no arm");go_ret2;rw [HXX.out];exact ⟨none,0,0,rfl,Ow.nil _ _ _ _,H1.out,ST1.out⟩
end
theorem qd1.parts {t:TypeId} {w:World} {base g ga next:Nat} {kind:Int} {ts:List Int} (h:qd1 t w base g ga kind next ts) :
    ∃ gj A n c,Blk w g t [.pointer (some ⟨gj,0,none⟩),.slice A n c]∧base≤gj∧qi9 w gj ga kind next∧qf9 w base A n ts∧w.cell? ⟨g,0,none⟩=some (.pointer (some ⟨gj,0,none⟩))∧w.cell? ⟨g,1,none⟩=some (.slice A n c):=by
  obtain ⟨gj,A,n,c,hb,hg,hj,hi⟩:=h;exact ⟨gj,A,n,c,hb,hg,hj,hi,hb.cell 0,hb.cell 1⟩
section
variable {w w':World} {base g ga f m next:Nat} {kind:Int} {ts l:List Int} {p:qb9} {D:qa1}
theorem vj6 (h:qd1 310 w base g ga kind next ts) (hd:qa5 w base p D) (hs:base≤w.heap.size) (ha:qa8 w ga p.d f m) :
    Calls Tryz.prog 208 #[.pointer (some ⟨g,0,none⟩)] w fun e w' => e=.returned (.int .i64 (qb0 D).2)∧qa5 w' base p (qb0 D).1∧Step mutD base p w w':=by
  have his:=vi1 h;obtain ⟨gj,A,n,c,hb,hg,hj,hi2,c0,c1⟩:=h.parts;have hfl:=vo3 hj hd hs ha;clear hb hj hi2 hd ha h;go_enter Tryz.func208,Tryz.ntmps208;go_wp2_with (first | (go_at_call 204;(with_reducible refine (his).mono ?_);rintro e w1 ⟨rfl,rfl⟩) | (go_at_call 207;(with_reducible refine (hfl).mono ?_);rintro e w1 ⟨rfl,h1,st1⟩) | fail "no arm");go_ret;exact ⟨rfl,h1,st1⟩
end
section
variable {w w':World} {base g ga f m next:Nat} {kind:Int} {ts l:List Int} {p:qb9} {D:qa1}
theorem skputO_any (h:qd1 310 w base g ga kind next ts) (hd:qa5 w base p D) (hs:base≤w.heap.size) (ha:qa8 w ga p.d f m) (hfm:f+m≤D.many) (hm:m≤4096) (hnm:next≤m) (hw:D.waits.length<900000) (hr:qg8 ts=true) (nn:Int) (B:Option Addr) (k d:Nat) (hl:RI w B k l) (hk:k≤maxLen) (hi:qz3 l) :
    Calls Tryz.prog 211 #[.pointer (some ⟨g,0,none⟩),.int .i64 nn,.slice B k d] w fun e w' => e=.returned (.tuple #[.bool (qt1 D f m kind next ts nn l).2.2.1,.int .i64 (qt1 D f m kind next ts nn l).2.2.2])∧qa5 w' base p (qt1 D f m kind next ts nn l).1∧qd1 310 w' base g ga kind (qt1 D f m kind next ts nn l).2.1 ts∧Step mutJ base p w w'∧OthK kind w w':=by
  have his:=vi1 h;have HJR:=hdd h;obtain ⟨gj,A,n,c,hb,hg,hj,hi2,c0,c1⟩:=h.parts;have hlen:=fun (W:World) (q:qi9 W gj ga kind next) => vf3 q
  have hput:qt1 D f m kind next ts nn l=if nn<0∨(next:Int)<nn then (D,next,false,2)
    else if qh6 ts l=false then (D,next,false,41)
    else if nn<(next:Int) then (D,next,false,0)
    else if (qh8 D f m kind next (rowB ts l ts.length)).2.2.2≠0 then ((qh8 D f m kind next (rowB ts l ts.length)).1,(qh8 D f m kind next (rowB ts l ts.length)).2.1,false,(qh8 D f m kind next (rowB ts l ts.length)).2.2.2)
    else ((qh8 D f m kind next (rowB ts l ts.length)).1,(qh8 D f m kind next (rowB ts l ts.length)).2.1,true,0):=rfl
  have HB:=hdd hb;have HJ:=hdd hj;have HI:=hdd hi2;have HD:=hdd hd;have HA:=hdd ha;generalize qt1 D f m kind next ts nn l=S at *
  by_cases h0:nn<0
  · rw [if_pos (.inl h0)] at hput;subst hput;clear hb hj hi2 hd ha h hl hi hw;go_enter Tryz.func211,Tryz.ntmps211;go_wp2_with (first | (go_at_call 204;(with_reducible refine (his).mono ?_);rintro e w1 ⟨rfl,rfl⟩) | fail "no arm");go_ret2;exact ⟨rfl,HD.out,HJR.out,Step.refl _ _ _ _,OthK.refl _ _⟩
  by_cases h1:(next:Int)<nn
  · rw [if_pos (.inr h1)] at hput;subst hput;clear hb hj hi2 hd ha h hl hi hw;go_enter Tryz.func211,Tryz.ntmps211;go_wp2_with (first | (go_at_call 204;(with_reducible refine (his).mono ?_);rintro e w1 ⟨rfl,rfl⟩) | (go_at_call 203;(with_reducible refine (hlen _ HJ.out).mono ?_);rintro e w1 ⟨rfl,rfl⟩) | fail "no arm");go_ret2;exact ⟨rfl,HD.out,HJR.out,Step.refl _ _ _ _,OthK.refl _ _⟩
  rw [if_neg omg] at hput
  cases hf:qh6 ts l with
  | false =>
    rw [if_pos hf] at hput;have hwr:=write_row A B n k c d ts l w hi2.ri hl hi2.len hk hr hf;subst hput;clear hb hj hi2 hd ha h hl hi hw hf;go_enter Tryz.func211,Tryz.ntmps211;go_wp2_with (first | (go_at_call 204;(with_reducible refine (his).mono ?_);rintro e w1 ⟨rfl,rfl⟩) | (go_at_call 203;(with_reducible refine (hlen _ HJ.out).mono ?_);rintro e w1 ⟨rfl,rfl⟩) | (go_at_call 205;(with_reducible refine (hwr).mono ?_);rintro e w1 ⟨rfl,rfl⟩) | fail "no arm");go_ret2;exact ⟨rfl,HD.out,HJR.out,Step.refl _ _ _ _,OthK.refl _ _⟩
  | true =>
    rw [if_neg (by rw [hf];simp)] at hput;have hwr:=vk0 A B n k c d ts l w hi2.ri hl hi2.len hk hf hi
    by_cases h2:nn<(next:Int)
    · rw [if_pos h2] at hput;subst hput;clear hb hj hi2 hd ha h hl hi hf hw;go_enter Tryz.func211,Tryz.ntmps211;go_wp2_with (first | (go_at_call 204;(with_reducible refine (his).mono ?_);rintro e w1 ⟨rfl,rfl⟩) | (go_at_call 203;(with_reducible refine (hlen _ HJ.out).mono ?_);rintro e w1 ⟨rfl,rfl⟩) | (go_at_call 203;(with_reducible refine (hlen _ J1.out).mono ?_);rintro e w2 ⟨rfl,rfl⟩) | ((go_at_call 205;(with_reducible refine (hwr).mono ?_);rintro e w1 ⟨C1,N1,d1,rfl,o1,b1⟩);have J1:=hdd (HJ.out.below b1);have H1:=hdd (HD.out.below b1);have A1:=hdd (show qa8 w1 ga p.d f m from Blk.below HA.out b1 (Blk.lt HA.out));have B1:=hdd (Blk.below HB.out b1 (Blk.lt HB.out));have I1:=hdd (HI.out.below b1);have O1:=hdd o1;have s1:=b1.size;have cp1:=o1.cap;have ST1:=hdd (Step.of_below (M:=mutJ) (base:=base) (p:=p) b1 hs);have e1:w1.cell? ⟨g,0,none⟩=some (.pointer (some ⟨gj,0,none⟩)):=B1.out.cell 0;have Q1:=hdd (OthK.of_below (kind:=kind) b1);clear o1 b1) | fail "no arm");go_ret2;exact ⟨rfl,H1.out,⟨gj,A,n,c,B1.out,hg,J1.out,I1.out⟩,ST1.out,Q1.out⟩
    · rw [if_neg h2] at hput;have hadd:=fun (W:World) (C:Option Addr) (N e:Nat) (h1:qi9 W gj ga kind next) (h2:qa5 W base p D) (h3:base≤W.heap.size) (h4:qa8 W ga p.d f m) (h5:RB W C N (rowB ts l ts.length)) (h6:N≤maxLen) => jaddO_any h1 h2 h3 hg h4 hfm hm hnm omg C N e _ h5 h6
      generalize qh8 D f m kind next (rowB ts l ts.length)=R at *;obtain ⟨D1,n1,v1,z1⟩:=R;simp only at hput hadd;clear hb hj hi2 hd ha h hl hi hf hw
      by_cases hz:z1=0
      · subst hz;rw [if_neg smp] at hput;subst hput;go_enter Tryz.func211,Tryz.ntmps211;go_wp2_with (first | (go_at_call 204;(with_reducible refine (his).mono ?_);rintro e w1 ⟨rfl,rfl⟩) | (go_at_call 203;(with_reducible refine (hlen _ HJ.out).mono ?_);rintro e w1 ⟨rfl,rfl⟩) | (go_at_call 203;(with_reducible refine (hlen _ J1.out).mono ?_);rintro e w2 ⟨rfl,rfl⟩) | ((go_at_call 205;(with_reducible refine (hwr).mono ?_);rintro e w1 ⟨C1,N1,d1,rfl,o1,b1⟩);have J1:=hdd (HJ.out.below b1);have H1:=hdd (HD.out.below b1);have A1:=hdd (show qa8 w1 ga p.d f m from Blk.below HA.out b1 (Blk.lt HA.out));have B1:=hdd (Blk.below HB.out b1 (Blk.lt HB.out));have I1:=hdd (HI.out.below b1);have O1:=hdd o1;have s1:=b1.size;have cp1:=o1.cap;have ST1:=hdd (Step.of_below (M:=mutJ) (base:=base) (p:=p) b1 hs);have e1:w1.cell? ⟨g,0,none⟩=some (.pointer (some ⟨gj,0,none⟩)):=B1.out.cell 0;have Q1:=hdd (OthK.of_below (kind:=kind) b1);clear o1 b1) | ((go_at_call 206;(with_reducible refine (hadd _ _ _ _ J1.out H1.out omg A1.out O1.out.rd.rb omg).mono ?_);rintro e w2 ⟨rfl,h2,j2,st2,q2⟩);have H2:=hdd h2;have J2:=hdd j2;have B2:=hdd (H1.out.blk B1.out st2.tch dcd);have A2:=hdd (H1.out.area A1.out st2.tch dcd);have I2:=hdd (I1.out.step H1.out st2 dcd);have ST2:=hdd (ST1.out.trans st2);have s2:=st2.size;have R2:=hdd (show qd1 310 w2 base g ga kind n1 ts from ⟨gj,A,n,c,B2.out,hg,J2.out,I2.out⟩);have e2:w2.cell? ⟨g,0,none⟩=some (.pointer (some ⟨gj,0,none⟩)):=B2.out.cell 0;have Q2:=hdd (Q1.out.trans q2);clear h2 j2 st2 q2) | fail "no arm");go_ret2;exact ⟨rfl,H2.out,R2.out,ST2.out,Q2.out⟩
      · have hzb:(z1 != 0)=true:=by rw [bne_iff_ne];exact hz
        rw [if_pos hz] at hput;subst hput;clear hz;go_enter Tryz.func211,Tryz.ntmps211;go_wp2_with (first | (go_at_call 204;(with_reducible refine (his).mono ?_);rintro e w1 ⟨rfl,rfl⟩) | (go_at_call 203;(with_reducible refine (hlen _ HJ.out).mono ?_);rintro e w1 ⟨rfl,rfl⟩) | (go_at_call 203;(with_reducible refine (hlen _ J1.out).mono ?_);rintro e w2 ⟨rfl,rfl⟩) | ((go_at_call 205;(with_reducible refine (hwr).mono ?_);rintro e w1 ⟨C1,N1,d1,rfl,o1,b1⟩);have J1:=hdd (HJ.out.below b1);have H1:=hdd (HD.out.below b1);have A1:=hdd (show qa8 w1 ga p.d f m from Blk.below HA.out b1 (Blk.lt HA.out));have B1:=hdd (Blk.below HB.out b1 (Blk.lt HB.out));have I1:=hdd (HI.out.below b1);have O1:=hdd o1;have s1:=b1.size;have cp1:=o1.cap;have ST1:=hdd (Step.of_below (M:=mutJ) (base:=base) (p:=p) b1 hs);have e1:w1.cell? ⟨g,0,none⟩=some (.pointer (some ⟨gj,0,none⟩)):=B1.out.cell 0;have Q1:=hdd (OthK.of_below (kind:=kind) b1);clear o1 b1) | ((go_at_call 206;(with_reducible refine (hadd _ _ _ _ J1.out H1.out omg A1.out O1.out.rd.rb omg).mono ?_);rintro e w2 ⟨rfl,h2,j2,st2,q2⟩);have H2:=hdd h2;have J2:=hdd j2;have B2:=hdd (H1.out.blk B1.out st2.tch dcd);have A2:=hdd (H1.out.area A1.out st2.tch dcd);have I2:=hdd (I1.out.step H1.out st2 dcd);have ST2:=hdd (ST1.out.trans st2);have s2:=st2.size;have R2:=hdd (show qd1 310 w2 base g ga kind n1 ts from ⟨gj,A,n,c,B2.out,hg,J2.out,I2.out⟩);have e2:w2.cell? ⟨g,0,none⟩=some (.pointer (some ⟨gj,0,none⟩)):=B2.out.cell 0;have Q2:=hdd (Q1.out.trans q2);clear h2 j2 st2 q2) | fail "no arm");go_ret2;exact ⟨rfl,H2.out,R2.out,ST2.out,Q2.out⟩
end
end Go.Proofs.YtmeebofhlilcmaaGreat
