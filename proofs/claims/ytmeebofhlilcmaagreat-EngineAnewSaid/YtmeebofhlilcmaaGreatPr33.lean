/- Parts: SinkA, SinkC, SinkO. -/
import Derived.Test.YtmeebofhlilcmaaGreatPr32
set_option linter.unusedVariables false
set_option linter.unusedSimpArgs false
set_option maxRecDepth 100000
set_option maxHeartbeats 0
namespace Go.Proofs.YtmeebofhlilcmaaGreat
open Go.RowKit
section
variable {w w':World} {base g ga f m next:Nat} {kind:Int} {ts:List Int} {p:bw} {D:aX}
theorem mj (h:cQ 310 w base g ga kind next ts):Ca 204 #[.pointer (some ⟨g,0,none⟩)] w fun e w'=>e=.returned (.bool true)/\w=w':=by
 obtain⟨gj,A,n,c,hb,hg,hj,hi⟩:=h;have c0:=hb.c0;clear hb hj hi;go_enter Tryz.func204,Tryz.ntmps204;go_wp2;go_ret;exact⟨rfl,rfl⟩
theorem nH (h:cQ 310 w base g ga kind next ts):Ca 120 #[.pointer (some ⟨g,0,none⟩)] w fun e w'=>e=.returned (I (next:Nat))/\w=w':=by
 have hi:=mj h;obtain⟨gj,A,n,c,hb,hg,hj,_⟩:=h;have c0:=hb.c0;have hl:=kL hj;clear hb hj;go_enter Tryz.func120,Tryz.ntmps120;go_wp2_with (first | (go_at_call 204;go_call (hi) as e w1 ⟨rfl,rfl⟩) | (go_at_call 203;go_call (hl) as e w1 ⟨rfl,rfl⟩) | fail);go_ret;exact⟨rfl,rfl⟩
theorem skget_any (h:cQ 310 w base g ga kind next ts)(hd:bc w base p D)(hs:base<=w.heap.size)(ha:br w ga p.d f m)(hfm:f+m<=D.many)(hnm:next<=4096)(n:Int) :
 Ca 189 #[.pointer (some ⟨g,0,none⟩),I n] w fun e w'=>∃ B k d,e=.returned (.tuple #[.slice B k d,I (dw D f m kind next ts n).2.2])/\Ow iv w' w.heap.size 3 B k d (dw D f m kind next ts n).2.1/\bc w' base p (dw D f m kind next ts n).1/\Step mutD base p w w':=by
 have his:=mj h;obtain⟨gj,A,na,c,hb,hg,hj,hi⟩:=h;have c0:=hb.c0;have hget:=jget_any hj hd hs ha hfm hnm n;have HB:=aT hb;have HI:=aT hi;have HD:=aT hd;obtain⟨R,hR⟩:∃ R,R=fk D f m kind next n:=⟨_,rfl⟩;rw[<- hR] at hget;obtain⟨X,hX⟩:∃ X,X=dw D f m kind next ts n:=⟨_,rfl⟩;have hXR:X=if R.2.2≠0 then (R.1,[],R.2.2) else if (eD ts R.2.1).2≠0 then (R.1,[],41) else (R.1,(eD ts R.2.1).1,0):=by rw[hX,hR];rfl
 rw[<- hX];have HX:=aT hXR;clear hb hi hd hj hX hR hXR;obtain⟨D1,bs,z⟩:=R;simp only at hget HX
 by_cases hz:z=0
 · subst hz;have HX2:=aT (show X=if (eD ts bs).2≠0 then (D1,[],41) else (D1,(eD ts bs).1,0) from by rw[HX.out,if_neg a8]);clear HX;have hrd:=fun (W:World) (B:Option Addr) (k d:Nat) (r1:RI W A na ts) (r2:RB W B k bs) (hk:k<=d) (hd:d<=maxLen)=>read_row A B na k c d ts bs W r1 r2 HI.out.len hk hd
   generalize hrr:eD ts bs=rr at *;obtain⟨l2,e2⟩:=rr;clear hrr;simp only at HX2
   by_cases he:e2=0
   · subst he;have HXX:=aT (show X=(D1,l2,0) from by rw[HX2.out,if_neg a8]);clear HX2;go_enter Tryz.func189,Tryz.ntmps189;go_wp2_with (first | (go_at_call 204;go_call (his) as e w1 ⟨rfl,rfl⟩) | ((go_at_call 252;go_call (hget) as e w1 ⟨B1,k1,d1,rfl,o1,h1,st1⟩);have H1:=aT h1;have ST1:=aT st1;have I1:=aT (HI.out.step HD.out st1 aU);have OB1:=aT o1;have cp:=o1.cap;have s1:=st1.size;have hbk:=HD.out.blk HB.out st1.tch aU;have x1:=hbk.c1;clear o1 h1 st1 hbk) | ((go_at_call 165;go_call (hrd _ _ _ _ I1.out.ri OB1.out.rd.rb cp.1 cp.2) as e w2 ⟨B2,k2,d2,rfl,o2,b2⟩);have H2:=aT (H1.out.below b2);have ST2:=aT (ST1.out.then_below (b2.mono s1) hs);have O2:=aT (o2.rebase (base':=w.heap.size) s1);clear o2 b2) | fail);go_ret2;rw[HXX.out];exact⟨B2,k2,d2,rfl,O2.out,H2.out,ST2.out⟩
   · have heb:(e2 != 0)=true:=by rw[ag];exact he
     have heI:(((e2:Nat):Int) != 0)=true:=by rw[ag];omega
     have HXX:=aT (show X=(D1,[],41) from by rw[HX2.out,if_pos he]);clear HX2 he;go_enter Tryz.func189,Tryz.ntmps189;go_wp2_with (first | (go_at_call 204;go_call (his) as e w1 ⟨rfl,rfl⟩) | ((go_at_call 252;go_call (hget) as e w1 ⟨B1,k1,d1,rfl,o1,h1,st1⟩);have H1:=aT h1;have ST1:=aT st1;have I1:=aT (HI.out.step HD.out st1 aU);have OB1:=aT o1;have cp:=o1.cap;have s1:=st1.size;have hbk:=HD.out.blk HB.out st1.tch aU;have x1:=hbk.c1;clear o1 h1 st1 hbk) | ((go_at_call 165;go_call (hrd _ _ _ _ I1.out.ri OB1.out.rd.rb cp.1 cp.2) as e w2 ⟨B2,k2,d2,rfl,o2,b2⟩);have H2:=aT (H1.out.below b2);have ST2:=aT (ST1.out.then_below (b2.mono s1) hs);clear o2 b2) | fail);go_ret2;rw[HXX.out];exact⟨none,0,0,rfl,Ow.nil _ _ _ _,H2.out,ST2.out⟩
 · have hzb:(z != 0)=true:=by rw[ag];exact hz
   have HXX:=aT (show X=(D1,[],z) from by rw[HX.out,if_pos hz]);clear HX hz;go_enter Tryz.func189,Tryz.ntmps189;go_wp2_with (first | (go_at_call 204;go_call (his) as e w1 ⟨rfl,rfl⟩) | ((go_at_call 252;go_call (hget) as e w1 ⟨B1,k1,d1,rfl,o1,h1,st1⟩);have H1:=aT h1;have ST1:=aT st1;clear o1 h1 st1) | fail);go_ret2;rw[HXX.out];exact⟨none,0,0,rfl,Ow.nil _ _ _ _,H1.out,ST1.out⟩
end
theorem cQ.parts {t:TypeId}{w:World}{base g ga next:Nat}{kind:Int}{ts:List Int}(h:cQ t w base g ga kind next ts) :
 ∃ gj A n c,Blk w g t [.pointer (some ⟨gj,0,none⟩),.slice A n c]/\base<=gj/\cV w gj ga kind next/\dh w base A n ts/\w.cell? ⟨g,0,none⟩=some (.pointer (some ⟨gj,0,none⟩))/\w.cell? ⟨g,1,none⟩=some (.slice A n c):=by
 obtain⟨gj,A,n,c,hb,hg,hj,hi⟩:=h;exact⟨gj,A,n,c,hb,hg,hj,hi,hb.cell 0,hb.cell 1⟩
section
variable {w w':World} {base g ga f m next:Nat} {kind:Int} {ts l:List Int} {p:bw} {D:aX}
theorem oU (h:cQ 310 w base g ga kind next ts)(hd:bc w base p D)(hs:base<=w.heap.size)(ha:br w ga p.d f m) :
 Ca 208 #[.pointer (some ⟨g,0,none⟩)] w fun e w'=>e=.returned (I (bu D).2)/\bc w' base p (bu D).1/\Step mutD base p w w':=by
 have his:=mj h;obtain⟨gj,A,n,c,hb,hg,hj,hi2,c0,c1⟩:=h.parts;have hfl:=oE hj hd hs ha;clear hb hj hi2 hd ha h;go_enter Tryz.func208,Tryz.ntmps208;go_wp2_with (first | (go_at_call 204;go_call (his) as e w1 ⟨rfl,rfl⟩) | (go_at_call 207;go_call (hfl) as e w1 ⟨rfl,h1,st1⟩) | fail);go_ret;exact⟨rfl,h1,st1⟩
end
section
variable {w w':World} {base g ga f m next:Nat} {kind:Int} {ts l:List Int} {p:bw} {D:aX}
theorem skputO_any (h:cQ 310 w base g ga kind next ts)(hd:bc w base p D)(hs:base<=w.heap.size)(ha:br w ga p.d f m)(hfm:f+m<=D.many)(hm:m<=4096)(hnm:next<=m)(hw:D.waits.length<900000)(hr:da ts=true)(nn:Int)(B:Option Addr)(k d:Nat)(hl:RI w B k l)(hk:k<=maxLen)(hi:eS l) :
 Ca 211 #[.pointer (some ⟨g,0,none⟩),I nn,.slice B k d] w fun e w'=>e=.returned (.tuple #[.bool (eR D f m kind next ts nn l).2.2.1,I (eR D f m kind next ts nn l).2.2.2])/\bc w' base p (eR D f m kind next ts nn l).1/\cQ 310 w' base g ga kind (eR D f m kind next ts nn l).2.1 ts/\Step mutJ base p w w'/\OthK kind w w':=by
 have his:=mj h;have HJR:=aT h;obtain⟨gj,A,n,c,hb,hg,hj,hi2,c0,c1⟩:=h.parts;have hlen:=fun (W:World) (q:cV W gj ga kind next)=>kL q
 have hput:eR D f m kind next ts nn l=if nn<0\/(next:Int)<nn then (D,next,false,2)
  else if cd ts l=false then (D,next,false,41)
  else if nn<(next:Int) then (D,next,false,0)
  else if (cH D f m kind next (rowB ts l ts.length)).2.2.2≠0 then ((cH D f m kind next (rowB ts l ts.length)).1,(cH D f m kind next (rowB ts l ts.length)).2.1,false,(cH D f m kind next (rowB ts l ts.length)).2.2.2)
  else ((cH D f m kind next (rowB ts l ts.length)).1,(cH D f m kind next (rowB ts l ts.length)).2.1,true,0):=rfl
 have HB:=aT hb;have HJ:=aT hj;have HI:=aT hi2;have HD:=aT hd;have HA:=aT ha;generalize eR D f m kind next ts nn l=S at *
 by_cases h0:nn<0
 · rw[if_pos (.inl h0)] at hput;subst hput;clear hb hj hi2 hd ha h hl hi hw;go_enter Tryz.func211,Tryz.ntmps211;go_wp2_with (first | (go_at_call 204;go_call (his) as e w1 ⟨rfl,rfl⟩) | fail);go_ret2;exact⟨rfl,HD.out,HJR.out,Step.refl _ _ _ _,OthK.refl _ _⟩
 by_cases h1:(next:Int)<nn
 · rw[if_pos (.inr h1)] at hput;subst hput;clear hb hj hi2 hd ha h hl hi hw;go_enter Tryz.func211,Tryz.ntmps211;go_wp2_with (first | (go_at_call 204;go_call (his) as e w1 ⟨rfl,rfl⟩) | (go_at_call 203;go_call (hlen _ HJ.out) as e w1 ⟨rfl,rfl⟩) | fail);go_ret2;exact⟨rfl,HD.out,HJR.out,Step.refl _ _ _ _,OthK.refl _ _⟩
 rw[if_neg aS] at hput
 cases hf:cd ts l with
 | false=>
   rw[if_pos hf] at hput;have hwr:=write_row A B n k c d ts l w hi2.ri hl hi2.len hk hr hf;subst hput;clear hb hj hi2 hd ha h hl hi hw hf;go_enter Tryz.func211,Tryz.ntmps211;go_wp2_with (first | (go_at_call 204;go_call (his) as e w1 ⟨rfl,rfl⟩) | (go_at_call 203;go_call (hlen _ HJ.out) as e w1 ⟨rfl,rfl⟩) | (go_at_call 205;go_call (hwr) as e w1 ⟨rfl,rfl⟩) | fail);go_ret2;exact⟨rfl,HD.out,HJR.out,Step.refl _ _ _ _,OthK.refl _ _⟩
 | true=>
   rw[if_neg (by rw[hf];simp)] at hput;have hwr:=oq A B n k c d ts l w hi2.ri hl hi2.len hk hf hi
   by_cases h2:nn<(next:Int)
   · rw[if_pos h2] at hput;subst hput;clear hb hj hi2 hd ha h hl hi hf hw;go_enter Tryz.func211,Tryz.ntmps211;go_wp2_with (first | (go_at_call 204;go_call (his) as e w1 ⟨rfl,rfl⟩) | (go_at_call 203;(with_reducible refine (hlen _ HJ.out).mono ?_);rintro e w1 ⟨rfl,rfl⟩) | (go_at_call 203;(with_reducible refine (hlen _ J1.out).mono ?_);rintro e w2 ⟨rfl,rfl⟩) | ((go_at_call 205;go_call (hwr) as e w1 ⟨C1,N1,d1,rfl,o1,b1⟩);have J1:=aT (HJ.out.below b1);have H1:=aT (HD.out.below b1);have A1:=aT (show br w1 ga p.d f m from Blk.below HA.out b1 (Blk.lt HA.out));have B1:=aT (Blk.below HB.out b1 (Blk.lt HB.out));have I1:=aT (HI.out.below b1);have O1:=aT o1;have s1:=b1.size;have cp1:=o1.cap;have ST1:=aT (Step.of_below (M:=mutJ) (base:=base) (p:=p) b1 hs);have e1:=B1.out.c0;have Q1:=aT (OthK.of_below (kind:=kind) b1);clear o1 b1) | fail);go_ret2;exact⟨rfl,H1.out,⟨gj,A,n,c,B1.out,hg,J1.out,I1.out⟩,ST1.out,Q1.out⟩
   · rw[if_neg h2] at hput;have hadd:=fun (W:World) (C:Option Addr) (N e:Nat) (h1:cV W gj ga kind next) (h2:bc W base p D) (h3:base<=W.heap.size) (h4:br W ga p.d f m) (h5:RB W C N (rowB ts l ts.length)) (h6:N<=maxLen)=>jaddO_any h1 h2 h3 hg h4 hfm hm hnm aS C N e _ h5 h6
     generalize cH D f m kind next (rowB ts l ts.length)=R at *;obtain⟨D1,n1,v1,z1⟩:=R;simp only at hput hadd;clear hb hj hi2 hd ha h hl hi hf hw
     by_cases hz:z1=0
     · subst hz;rw[if_neg a8] at hput;subst hput;go_enter Tryz.func211,Tryz.ntmps211;go_wp2_with (first | (go_at_call 204;go_call (his) as e w1 ⟨rfl,rfl⟩) | (go_at_call 203;(with_reducible refine (hlen _ HJ.out).mono ?_);rintro e w1 ⟨rfl,rfl⟩) | (go_at_call 203;(with_reducible refine (hlen _ J1.out).mono ?_);rintro e w2 ⟨rfl,rfl⟩) | ((go_at_call 205;go_call (hwr) as e w1 ⟨C1,N1,d1,rfl,o1,b1⟩);have J1:=aT (HJ.out.below b1);have H1:=aT (HD.out.below b1);have A1:=aT (show br w1 ga p.d f m from Blk.below HA.out b1 (Blk.lt HA.out));have B1:=aT (Blk.below HB.out b1 (Blk.lt HB.out));have I1:=aT (HI.out.below b1);have O1:=aT o1;have s1:=b1.size;have cp1:=o1.cap;have ST1:=aT (Step.of_below (M:=mutJ) (base:=base) (p:=p) b1 hs);have e1:=B1.out.c0;have Q1:=aT (OthK.of_below (kind:=kind) b1);clear o1 b1) | ((go_at_call 206;go_call (hadd _ _ _ _ J1.out H1.out aS A1.out O1.out.rd.rb aS) as e w2 ⟨rfl,h2,j2,st2,q2⟩);have H2:=aT h2;have J2:=aT j2;have B2:=aT (H1.out.blk B1.out st2.tch aU);have I2:=aT (I1.out.step H1.out st2 aU);have ST2:=aT (ST1.out.trans st2);have R2:=aT (show cQ 310 w2 base g ga kind n1 ts from ⟨gj,A,n,c,B2.out,hg,J2.out,I2.out⟩);have Q2:=aT (Q1.out.trans q2);clear h2 j2 st2 q2) | fail);go_ret2;exact⟨rfl,H2.out,R2.out,ST2.out,Q2.out⟩
     · have hzb:(z1 != 0)=true:=by rw[ag];exact hz
       rw[if_pos hz] at hput;subst hput;clear hz;go_enter Tryz.func211,Tryz.ntmps211;go_wp2_with (first | (go_at_call 204;go_call (his) as e w1 ⟨rfl,rfl⟩) | (go_at_call 203;(with_reducible refine (hlen _ HJ.out).mono ?_);rintro e w1 ⟨rfl,rfl⟩) | (go_at_call 203;(with_reducible refine (hlen _ J1.out).mono ?_);rintro e w2 ⟨rfl,rfl⟩) | ((go_at_call 205;go_call (hwr) as e w1 ⟨C1,N1,d1,rfl,o1,b1⟩);have J1:=aT (HJ.out.below b1);have H1:=aT (HD.out.below b1);have A1:=aT (show br w1 ga p.d f m from Blk.below HA.out b1 (Blk.lt HA.out));have B1:=aT (Blk.below HB.out b1 (Blk.lt HB.out));have I1:=aT (HI.out.below b1);have O1:=aT o1;have s1:=b1.size;have cp1:=o1.cap;have ST1:=aT (Step.of_below (M:=mutJ) (base:=base) (p:=p) b1 hs);have e1:=B1.out.c0;have Q1:=aT (OthK.of_below (kind:=kind) b1);clear o1 b1) | ((go_at_call 206;go_call (hadd _ _ _ _ J1.out H1.out aS A1.out O1.out.rd.rb aS) as e w2 ⟨rfl,h2,j2,st2,q2⟩);have H2:=aT h2;have J2:=aT j2;have B2:=aT (H1.out.blk B1.out st2.tch aU);have I2:=aT (I1.out.step H1.out st2 aU);have ST2:=aT (ST1.out.trans st2);have R2:=aT (show cQ 310 w2 base g ga kind n1 ts from ⟨gj,A,n,c,B2.out,hg,J2.out,I2.out⟩);have Q2:=aT (Q1.out.trans q2);clear h2 j2 st2 q2) | fail);go_ret2;exact⟨rfl,H2.out,R2.out,ST2.out,Q2.out⟩
end
end Go.Proofs.YtmeebofhlilcmaaGreat
