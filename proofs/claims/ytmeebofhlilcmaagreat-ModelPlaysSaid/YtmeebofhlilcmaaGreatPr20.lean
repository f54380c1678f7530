/- Parts. -/
import Derived.Test.YtmeebofhlilcmaaGreatPr19
set_option linter.unusedVariables false
set_option linter.unusedSimpArgs false
set_option maxRecDepth 100000
set_option maxHeartbeats 0
namespace Go.Proofs.YtmeebofhlilcmaaGreat
variable {t:TypeId} {w w':World} {base lo g ga next:Nat} {kind:Int} {ts:List Int} {D:aX}
open Go.RowKit
section
variable {w w':World} {base g ga f m next:Nat} {kind:Int} {ts:List Int} {p:bE} {D:aX}
theorem oz (h:cX 307 w base g ga kind next ts):Ca 202 #[.pointer (some ⟨g,0,none⟩)] w fun e w'=>e=.returned (.bool true)/\w=w':=by
 obtain⟨gj,A,n,c,hb,hg,hj,hi⟩:=h;have c0:=hb.c0;clear hb hj hi;go_enter Tryz.func202,Tryz.ntmps202;go_wp2;go_ret;exact⟨rfl,rfl⟩
theorem lM (h:cX 307 w base g ga kind next ts):Ca 119 #[.pointer (some ⟨g,0,none⟩)] w fun e w'=>e=.returned (I (next:Nat))/\w=w':=by
 have hi:=oz h;obtain⟨gj,A,n,c,hb,hg,hj,_⟩:=h;have c0:=hb.c0;have hl:=lF hj;clear hb hj;go_enter Tryz.func119,Tryz.ntmps119;go_wp2_with (first | (go_at_call 202;go_call (hi) as e w1 ⟨rfl,rfl⟩) | (go_at_call 203;go_call (hl) as e w1 ⟨rfl,rfl⟩) | fail);go_ret;exact⟨rfl,rfl⟩
theorem oA (h:cX 307 w base g ga kind next ts)(hd:be w base p D)(hs:base<=w.heap.size)(ha:bD w ga p.d f m)(hfm:f+m<=D.many)(hnm:next<=4096)(n:Int) :
 Ca 210 #[.pointer (some ⟨g,0,none⟩),I n] w fun e w'=>∃ B k d,e=.returned (.tuple #[.slice B k d,I (dm D f m kind next ts n).2.2])/\Ow iv w' w.heap.size 3 B k d (dm D f m kind next ts n).2.1/\be w' base p (dm D f m kind next ts n).1/\Step mutD base p w w':=by
 have his:=oz h;have HH:=aT h;obtain⟨gj,A,na,c,hb,hg,hj,hi⟩:=h;have c0:=hb.c0;have hget:=jget_any hj hd hs ha hfm hnm n;have HB:=aT hb;have HI:=aT hi;have HD:=aT hd;obtain⟨R,hR⟩:∃ R,R=eX D f m kind next n:=⟨_,rfl⟩;rw[<- hR] at hget;obtain⟨X,hX⟩:∃ X,X=dm D f m kind next ts n:=⟨_,rfl⟩;have hXR:X=if R.2.2≠0 then (R.1,[],R.2.2) else if (eK ts R.2.1).2≠0 then (R.1,[],41) else (R.1,(eK ts R.2.1).1,0):=by rw[hX,hR];rfl
 rw[<- hX];have HX:=aT hXR;clear hb hi hd hj hX hR hXR;obtain⟨D1,bs,z⟩:=R;simp only at hget HX
 by_cases hz:z=0
 · subst hz;have HX2:=aT (show X=if (eK ts bs).2≠0 then (D1,[],41) else (D1,(eK ts bs).1,0) from by rw[HX.out,if_neg aZ]);clear HX;have hrd:=fun (W:World) (B:Option Addr) (k d:Nat) (r1:RI W A na ts) (r2:RB W B k bs) (hk:k<=d) (hd:d<=maxLen)=>read_row A B na k c d ts bs W r1 r2 HI.out.len hk hd
   generalize hrr:eK ts bs=rr at *;obtain⟨l2,e2⟩:=rr;clear hrr;simp only at HX2
   by_cases he:e2=0
   · subst he;have HXX:=aT (show X=(D1,l2,0) from by rw[HX2.out,if_neg aZ]);clear HX2;go_enter Tryz.func210,Tryz.ntmps210;go_wp2_with (first | (go_at_call 202;go_call (his) as e w1 ⟨rfl,rfl⟩) | ((go_at_call 252;go_call (hget) as e w1 ⟨B1,k1,d1,rfl,o1,h1,st1⟩);have H1:=aT h1;have ST1:=aT st1;have I1:=aT (HI.out.step HD.out st1 aU);have OB1:=aT o1;have cp:=o1.cap;have s1:=st1.size;have hbk:=HD.out.blk HB.out st1.tch aU;have x1:=hbk.c1;clear o1 h1 st1 hbk) | ((go_at_call 165;go_call (hrd _ _ _ _ I1.out.ri OB1.out.rd.rb cp.1 cp.2) as e w2 ⟨B2,k2,d2,rfl,o2,b2⟩);have H2:=aT (H1.out.below b2);have ST2:=aT (ST1.out.then_below (b2.mono s1) hs);have O2:=aT (o2.rebase (base':=w.heap.size) s1);clear o2 b2) | fail);go_ret2;rw[HXX.out];exact⟨B2,k2,d2,rfl,O2.out,H2.out,ST2.out⟩
   · have heb:(e2 != 0)=true:=by rw[ag];exact he
     have heI:(((e2:Nat):Int) != 0)=true:=by rw[ag];omega
     have HXX:=aT (show X=(D1,[],41) from by rw[HX2.out,if_pos he]);clear HX2 he;go_enter Tryz.func210,Tryz.ntmps210;go_wp2_with (first | (go_at_call 202;go_call (his) as e w1 ⟨rfl,rfl⟩) | ((go_at_call 252;go_call (hget) as e w1 ⟨B1,k1,d1,rfl,o1,h1,st1⟩);have H1:=aT h1;have ST1:=aT st1;have I1:=aT (HI.out.step HD.out st1 aU);have OB1:=aT o1;have cp:=o1.cap;have s1:=st1.size;have hbk:=HD.out.blk HB.out st1.tch aU;have x1:=hbk.c1;clear o1 h1 st1 hbk) | ((go_at_call 165;go_call (hrd _ _ _ _ I1.out.ri OB1.out.rd.rb cp.1 cp.2) as e w2 ⟨B2,k2,d2,rfl,o2,b2⟩);have H2:=aT (H1.out.below b2);have ST2:=aT (ST1.out.then_below (b2.mono s1) hs);clear o2 b2) | fail);go_ret2;rw[HXX.out];exact⟨none,0,0,rfl,Ow.nil _ _ _ _,H2.out,ST2.out⟩
 · have hzb:(z != 0)=true:=by rw[ag];exact hz
   have HXX:=aT (show X=(D1,[],z) from by rw[HX.out,if_pos hz]);clear HX hz;go_enter Tryz.func210,Tryz.ntmps210;go_wp2_with (first | (go_at_call 202;go_call (his) as e w1 ⟨rfl,rfl⟩) | ((go_at_call 252;go_call (hget) as e w1 ⟨B1,k1,d1,rfl,o1,h1,st1⟩);have H1:=aT h1;have ST1:=aT st1;clear o1 h1 st1) | fail);go_ret2;rw[HXX.out];exact⟨none,0,0,rfl,Ow.nil _ _ _ _,H1.out,ST1.out⟩
end
theorem pT (f m:Nat):∀ (l:List Int) (D:aX),(dL D f m l).1.many=D.many/\(dL D f m l).1.waits.length<=D.waits.length+l.length:=by
 intro l
 induction l with
 | nil=>intro D;exact⟨rfl,by simp[dL]⟩
 | cons n l ih=>
   intro D;obtain⟨a1,a2⟩:=jm D f m n bw
   by_cases he:(bK D f m n bw).2=0
   · rw[lG he];obtain⟨h1,h2⟩:=ih (bK D f m n bw).1;exact⟨h1.trans a1,by rw[aF];omega⟩
   · rw[lH he];exact⟨a1,by rw[aF];omega⟩
theorem oB (D:aX):(bH D).1.many=D.many/\(bH D).1.waits.length<=D.waits.length:=by
 unfold bH
 split
 · exact⟨rfl,Nat.le_refl _⟩
 · split
   · exact⟨rfl,by simp[ey]⟩
   · exact⟨rfl,by simp[jj]⟩
theorem mH (D:aX)(f m:Nat)(kind:Int):(bP D f m kind).1.many=D.many/\(bP D f m kind).1.waits.length<=D.waits.length+m/\(bP D f m kind).2.1<=m:=by
 obtain⟨o,eo⟩:=gO D m;have hle:=mn D.now f kind m;obtain⟨h1,h2⟩:=pT f m (bZ D.now f kind m).2.2 (rdK D m);have e1:(rdK D m).many=D.many:=by rw[eo]
 have e2:(rdK D m).waits=D.waits:=by rw[eo]
 rw[e1] at h1;rw[e2] at h2;have f1:=oB (eg D f m kind).1;unfold eg at f1;unfold bP;unfold eg
 split
 · exact⟨rfl,by simp,by simp⟩
 split
 · exact⟨rfl,by simp,by simp⟩
 split
 · exact⟨h1,ae h2 aS,by simp⟩
 split
 · exact⟨h1,ae h2 aS,hle.1⟩
 split
 · exact⟨f1.1.trans h1,ae f1.2 (ae h2 aS),by simp⟩
 · exact⟨f1.1.trans h1,ae f1.2 (ae h2 aS),hle.1⟩
theorem aPutV_few (D:aX)(f m:Nat)(n kind number:Int)(l:List UInt8):(cI D f m n kind number l).1.many=D.many/\(cI D f m n kind number l).1.waits.length<=D.waits.length+1:=by
 unfold cI
 split
 · exact⟨rfl,by simp⟩
 · exact jm D f m n _
theorem jAddV_few (D:aX)(f m:Nat)(kind:Int)(next:Nat)(l:List UInt8)(hn:next<=m):(cO D f m kind next l).1.many=D.many/\(cO D f m kind next l).1.waits.length<=D.waits.length+1/\(cO D f m kind next l).2.1<=m:=by
 obtain⟨h1,h2⟩:=aPutV_few D f m next kind next l;unfold cO
 split
 · exact⟨rfl,by simp,hn⟩
 split
 · exact⟨rfl,by simp,hn⟩
 split
 · exact⟨h1,h2,hn⟩
 · exact⟨h1,h2,by show next+1<=m;omega⟩
theorem aReadV_few (D:aX)(f m:Nat)(n:Int):(bN D f m n).1.many=D.many/\(bN D f m n).1.waits.length<=D.waits.length:=by
 unfold bN eW
 split
 · exact⟨rfl,Nat.le_refl _⟩
 · split
   · exact⟨rfl,Nat.le_refl _⟩
   · exact⟨rfl,by simp[dZ]⟩
def ju (t:TypeId)(w:World)(base lo g ga:Nat)(kind:Int)(next:Nat)(ts:List Int):Prop :=
 ∃ gj A n c,Blk w g t [.pointer (some ⟨gj,0,none⟩),.slice A n c]/\base<=gj/\dc w gj ga kind next/\cK w base A n ts/\∀ b,A.map (·.block)=some b->lo<=b
theorem ju.at_ (H:ju t w base lo g ga kind next ts):cX t w base g ga kind next ts:=by
 obtain⟨gj,A,n,c,h1,h2,h3,h4,_⟩:=H;exact⟨gj,A,n,c,h1,h2,h3,h4⟩
theorem ju.step {M:List TypeId}{p:bE}(H:ju t w base lo g ga kind next ts)(hd:be w base p D)(k:Step M base p w w')(h1:t ∉ 4 :: M)(h2:363 ∉ 4 :: M)(h3:3 ∉ 4 :: M):ju t w' base lo g ga kind next ts:=by
 obtain⟨gj,A,n,c,hb,hg,hj,hi,hl⟩:=H;exact⟨gj,A,n,c,hd.blk hb k.tch h1,hg,hd.blk hj k.tch h2,hi.step hd k h3,hl⟩
def gR (t:TypeId)(w:World)(base ga:Nat)(kind:Int)(ts:List Int)(p:bE)(R:aX × Nat × Int)(e:Ending)(w':World):Prop :=
 ∃ P,e=.returned (.tuple #[.pointer P,I R.2.2])/\(R.2.2≠0->P=none)/\(R.2.2=0->∃ g,P=some ⟨g,0,none⟩/\w.heap.size<=g/\ju t w' base w.heap.size g ga kind R.2.1 ts)/\be w' base p R.1/\Step mutD base p w w'
section
variable {t:TypeId} {w w':World} {base ga g next:Nat} {kind z:Int} {ts:List Int} {p:bE} {D:aX}
theorem gR.no (hz:z≠0)(hd:be w' base p D)(hs:Step mutD base p w w'):gR t w base ga kind ts p (D,0,z) (.returned (.tuple #[.pointer none,I z])) w' :=
 ⟨none,rfl,fun _=>rfl,fun e=>absurd e hz,hd,hs⟩
theorem gR.yes (hg:w.heap.size<=g)(hj:ju t w' base w.heap.size g ga kind next ts)(hd:be w' base p D)(hs:Step mutD base p w w'):gR t w base ga kind ts p (D,next,0) (.returned (.tuple #[.pointer (some ⟨g,0,none⟩),I 0])) w' :=
 ⟨_,rfl,fun e=>absurd rfl e,fun _=>⟨g,rfl,hg,hj⟩,hd,hs⟩
end
theorem fGetV_many (D:aX)(f m:Nat)(kind:Int)(next:Nat)(ts:List Int)(n:Int):(dm D f m kind next ts n).1.many=D.many:=by
 obtain⟨o,e⟩:=mu D f m kind next ts n;rw[e]
theorem pU (D:aX)(f m:Nat)(kind:Int)(next:Nat)(ts:List Int)(k:Nat):(dG D f m kind next ts k).1.many=D.many:=by
 obtain⟨o,e⟩:=pJ D f m kind next ts k;rw[e]
theorem pV {Dk:aX}{f m:Nat}{k:Nat}(h:dG D f m kind next ts k=(Dk,0)) :
 dG D f m kind next ts (k+1)=((dm Dk f m kind next ts (k:Int)).1,(dm Dk f m kind next ts (k:Int)).2.2):=by
 show (if (dG D f m kind next ts k).2≠0 then _ else _)=_
 rw[h];simp
theorem cX.partsF (h:cX t w base g ga kind next ts) :
 ∃ gj A n c,Blk w g t [.pointer (some ⟨gj,0,none⟩),.slice A n c]/\base<=gj/\dc w gj ga kind next/\cK w base A n ts/\w.cell? ⟨g,0,none⟩=some (.pointer (some ⟨gj,0,none⟩))/\w.cell? ⟨g,1,none⟩=some (.slice A n c):=by
 obtain⟨gj,A,n,c,hb,hg,hj,hi⟩:=h;exact⟨gj,A,n,c,hb,hg,hj,hi,hb.cell 0,hb.cell 1⟩
def OthK (kind:Int)(w w':World):Prop:=∀ gj ga k n,k≠kind->dc w gj ga k n->dc w' gj ga k n
theorem OthK.refl (kind:Int)(w:World):OthK kind w w:=fun _ _ _ _ _ h=>h
theorem OthK.trans {w'':World}(h:OthK kind w w')(k:OthK kind w' w''):OthK kind w w'':=fun gj ga q n e x=>k gj ga q n e (h gj ga q n e x)
theorem OthK.of_below (hb:Below w.heap.size w w'):OthK kind w w':=fun gj ga q n e x=>Blk.below x hb (Blk.lt x)
theorem OthK.of_step {M:List TypeId}{p:bE}(hd:be w base p D)(st:Step M base p w w')(ht:363 ∉ 4 :: M):OthK kind w w':=fun gj ga q n e x=>hd.blk x st.tch ht
theorem OthK.one {gj n:Nat}(h:dc w gj ga kind n)(i:Nat)(v:Value):OthK kind w (w.setCell ⟨gj,i,none⟩ v):=fun g ga' k n' hne x=>by
 have e1:=x.c1;have e2:=h.c1;refine Blk.far (p:=⟨gj,i,none⟩) x (fun e=>hne ?_) v;have e:g=gj:=e;subst e;rw[e1] at e2;injection e2 with e2;injection e2
section
variable {w w':World} {base ga gj f m next:Nat} {kind:Int} {p:bE} {D:aX}
theorem jaddO_any (h:dc w gj ga kind next)(hd:be w base p D)(hs:base<=w.heap.size)(hg:base<=gj)(ha:bD w ga p.d f m)(hfm:f+m<=D.many)(hm:m<=4096)(hnm:next<=m)(hw:D.waits.length<1000000)(B:Option Addr)(k d:Nat)(l:List UInt8)(hl:RB w B k l)(hk:k<=maxLen) :
 Ca 206 #[.pointer (some ⟨gj,0,none⟩),.slice B k d] w fun e w'=>e=.returned (.tuple #[I (cO D f m kind next l).2.2.1,I (cO D f m kind next l).2.2.2])/\be w' base p (cO D f m kind next l).1/\dc w' gj ga kind (cO D f m kind next l).2.1/\Step mutJ base p w w'/\OthK kind w w':=by
 have c0:=h.c0;have c1:=h.c1;have c2:=h.c2;have his:=lE h;have hlen:=hl.1;have HD:=aT hd;have HJ:=aT h;unfold cO;unfold maxLen at hk
 by_cases h1:113<l.length
 · rw[if_pos h1];rw[hlen] at h1;clear h hd ha hl;go_enter Tryz.func206,Tryz.ntmps206;go_wp2_with (first | (go_at_call 261;go_call (his) as e w1 ⟨rfl,rfl⟩) | fail);go_ret2;exact⟨rfl,HD.out,HJ.out,Step.refl _ _ _ _,OthK.refl _ _⟩
 · rw[if_neg h1];rw[hlen] at h1;have hroom:=jroom_any h ha hm hnm
   by_cases h2:m=next
   · rw[if_pos h2];subst h2;have hz:((m:Int) - m)=0:=aS;rw[hz] at hroom;clear h hd ha hl hz;go_enter Tryz.func206,Tryz.ntmps206;go_wp2_with (first | (go_at_call 261;go_call (his) as e w1 ⟨rfl,rfl⟩) | (go_at_call 262;go_call (hroom) as e w2 ⟨rfl,q2,rfl⟩) | fail);go_ret2;have hb:Below w.heap.size w (w.drewN q2):=below_drewN (Below.refl _ _) q2;exact⟨rfl,HD.out.below hb,Blk.drewN HJ.out q2,Step.of_below hb hs,OthK.of_below hb⟩
   · rw[if_neg h2];have hz:((m:Int) - next == 0)=false:=by rw[af];omega
     have hput:=fun q=>s_aput (w:=w.drewN q) (d:=d) (hd.below (below_drewN (Below.refl _ _) q)) hs (ga:=ga) (f:=f) (m:=m) (Blk.drewN ha q) hfm next kind next B k l (hl.below (below_drewN (Below.refl _ _) q) aW) bQ aS hw
     generalize cI D f m next kind next l=P at *;obtain⟨D',z⟩:=P;simp only at hput ⊢
     by_cases hzz:z=0
     · subst hzz;rw[if_neg aZ];clear h hd ha hl h2;go_enter Tryz.func206,Tryz.ntmps206;go_wp2_with (first | (go_at_call 261;go_call (his) as e w1 ⟨rfl,rfl⟩) | (go_at_call 262;go_call (hroom) as e w2 ⟨rfl,q2,rfl⟩) | fail);go_region_held3 (fun w'=>w'.cell? ⟨gj,0,none⟩=some (.pointer (some ⟨ga,0,none⟩))/\w'.cell? ⟨gj,1,none⟩=some (I kind)) (first | go_keep | (refine⟨?_,?_⟩ <;> assumption)) (first | ((go_at_call 115;go_call (hput (q2+1)) as e w3 ⟨rfl,h3,s3⟩);have hj3:=(HD.out.below (below_drewN (Below.refl _ _) (q2+1))).blk (Blk.drewN HJ.out (q2+1)) s3.tch aU;have y0:=hj3.c0;have y1:=hj3.c1;have y2:=hj3.c2;have f2:=hj3.frozen 2;have S3:Step mutJ base p w w3:=((Step.of_below (M:=mutD) (below_drewN (Below.refl _ _) (q2+1)) hs).trans s3).mono (fun _ e=>aB _ e)) | fail);go_wp2;go_ret2;have oth3:OthK kind w w3:=(OthK.of_below (below_drewN (Below.refl _ _) (q2+1))).trans (OthK.of_step (HD.out.below (below_drewN (Below.refl _ _) (q2+1))) s3 aU);have hset:Blk (w3.setCell ⟨gj,2,none⟩ (I ((next:Int)+1))) gj 363 (jrnC ga kind (next+1)):=Blk.set_ hj3 2 _;have st:Step mutJ base p w3 (w3.setCell ⟨gj,2,none⟩ (I ((next:Int)+1))):=Step.one (dw _) hj3 (aC ..) hg (by have:=S3.size;omega);obtain⟨A9,c9,h9⟩:=h3;have hnf:¬ foot p A9 gj:=fun e=>by rcases h9.foot_ty hj3 e with q | q | q | q | q <;> exact absurd q aU
       exact⟨rfl,⟨A9,c9,h9.keep (F:=(·=gj)) (Keep.one (dw _)) (fun g hg e=>hnf (e ▸ hg))⟩,hset,S3.trans st,oth3.trans (OthK.one hj3 2 _)⟩
     · rw[if_pos hzz];have hne:(z != 0)=true:=by rw[ag];exact hzz
       clear h hd ha hl h2 hzz;go_enter Tryz.func206,Tryz.ntmps206;go_wp2_with (first | (go_at_call 261;go_call (his) as e w1 ⟨rfl,rfl⟩) | (go_at_call 262;go_call (hroom) as e w2 ⟨rfl,q2,rfl⟩) | fail);go_region_held3 (fun w'=>w'.cell? ⟨gj,0,none⟩=some (.pointer (some ⟨ga,0,none⟩))/\w'.cell? ⟨gj,1,none⟩=some (I kind)) (first | go_keep | (refine⟨?_,?_⟩ <;> assumption)) (first | ((go_at_call 115;go_call (hput (q2+1)) as e w3 ⟨rfl,h3,s3⟩);have hj3:=(HD.out.below (below_drewN (Below.refl _ _) (q2+1))).blk (Blk.drewN HJ.out (q2+1)) s3.tch aU;have y0:=hj3.c0;have y1:=hj3.c1;have y2:=hj3.c2;have f2:=hj3.frozen 2;have S3:Step mutJ base p w w3:=((Step.of_below (M:=mutD) (below_drewN (Below.refl _ _) (q2+1)) hs).trans s3).mono (fun _ e=>aB _ e)) | fail);go_wp2;go_ret2;have oth3:OthK kind w w3:=(OthK.of_below (below_drewN (Below.refl _ _) (q2+1))).trans (OthK.of_step (HD.out.below (below_drewN (Below.refl _ _) (q2+1))) s3 aU);exact⟨rfl,h3,hj3,S3,oth3⟩
end
section
variable {w w':World} {base g ga f m next:Nat} {kind:Int} {ts l:List Int} {p:bE} {D:aX}
theorem fdaddO_any (h:cX 307 w base g ga kind next ts)(hd:be w base p D)(hs:base<=w.heap.size)(ha:bD w ga p.d f m)(hfm:f+m<=D.many)(hm:m<=4096)(hnm:next<=m)(hw:D.waits.length<900000)(hr:da ts=true)(B:Option Addr)(k d:Nat)(hl:RI w B k l)(hk:k<=maxLen)(hi:eN l) :
 Ca 123 #[.pointer (some ⟨g,0,none⟩),.slice B k d] w fun e w'=>e=.returned (.tuple #[I (dY D f m kind next ts l).2.2.1,I (dY D f m kind next ts l).2.2.2])/\be w' base p (dY D f m kind next ts l).1/\cX 307 w' base g ga kind (dY D f m kind next ts l).2.1 ts/\Step mutJ base p w w'/\OthK kind w w':=by
 have his:=oz h;have HJR:=aT h;obtain⟨gj,A,n,c,hb,hg,hj,hi2,c0,c1⟩:=h.partsF;have hun:dY D f m kind next ts l=if (cE D f m kind next ts l).2.2.2≠0 then ((cE D f m kind next ts l).1,(cE D f m kind next ts l).2.1,0,(cE D f m kind next ts l).2.2.2)
  else if (bH (cE D f m kind next ts l).1).2≠0 then ((bH (cE D f m kind next ts l).1).1,(cE D f m kind next ts l).2.1,0,(bH (cE D f m kind next ts l).1).2)
  else ((bH (cE D f m kind next ts l).1).1,(cE D f m kind next ts l).2.1,(cE D f m kind next ts l).2.2.1,0):=rfl
 have hput:cE D f m kind next ts l=if cx ts l=false then (D,next,0,41) else cO D f m kind next (rowB ts l ts.length):=rfl;have HB:=aT hb;have HJ:=aT hj;have HI:=aT hi2;have HD:=aT hd;have HA:=aT ha
 cases hf:cx ts l with
 | false=>
   rw[if_pos hf] at hput;rw[hput,if_pos aZ] at hun;rw[hun];have hwr:=write_row A B n k c d ts l w hi2.ri hl hi2.len hk hr hf;clear hb hj hi2 hd ha h hl hi hf hput hun;go_enter Tryz.func123,Tryz.ntmps123;go_wp2_with (first | (go_at_call 202;go_call (his) as e w1 ⟨rfl,rfl⟩) | (go_at_call 205;go_call (hwr) as e w1 ⟨rfl,rfl⟩) | fail);go_ret2;exact⟨rfl,HD.out,HJR.out,Step.refl _ _ _ _,OthK.refl _ _⟩
 | true=>
   rw[if_neg (by rw[hf];simp)] at hput;have hwr:=pt A B n k c d ts l w hi2.ri hl hi2.len hk hf hi;have hadd:=fun (W:World) (C:Option Addr) (N e:Nat) (h1:dc W gj ga kind next) (h2:be W base p D) (h3:base<=W.heap.size) (h4:bD W ga p.d f m) (h5:RB W C N (rowB ts l ts.length)) (h6:N<=maxLen)=>jaddO_any h1 h2 h3 hg h4 hfm hm hnm aS C N e _ h5 h6
   rw[<- hput] at hadd;generalize cE D f m kind next ts l=R at *;obtain⟨D1,n1,v1,z1⟩:=R;simp only at hun hadd;generalize dY D f m kind next ts l=S at *;clear hb hj hi2 hd ha h hl hi hf hput hw
   by_cases hz:z1=0
   · subst hz;rw[if_neg aZ] at hun;have hfl:=fun (W:World) (h1:dc W gj ga kind n1) (h2:be W base p D1) (h3:base<=W.heap.size) (h4:bD W ga p.d f m)=>pH h1 h2 h3 h4
     generalize bH D1=F at *;obtain⟨D2,z2⟩:=F;simp only at hun hfl
     by_cases hz2:z2=0
     · subst hz2;rw[if_neg aZ] at hun;subst hun;go_enter Tryz.func123,Tryz.ntmps123;go_wp2_with (first | (go_at_call 202;go_call (his) as e w1 ⟨rfl,rfl⟩) | ((go_at_call 205;go_call (hwr) as e w1 ⟨C1,N1,d1,rfl,o1,b1⟩);have J1:=aT (HJ.out.below b1);have H1:=aT (HD.out.below b1);have A1:=aT (show bD w1 ga p.d f m from Blk.below HA.out b1 (Blk.lt HA.out));have B1:=aT (Blk.below HB.out b1 (Blk.lt HB.out));have I1:=aT (HI.out.below b1);have O1:=aT o1;have s1:=b1.size;have cp1:=o1.cap;have ST1:=aT (Step.of_below (M:=mutJ) (base:=base) (p:=p) b1 hs);have e1:=B1.out.c0;have Q1:=aT (OthK.of_below (kind:=kind) b1);clear o1 b1) | ((go_at_call 206;go_call (hadd _ _ _ _ J1.out H1.out aS A1.out O1.out.rd.rb aS) as e w2 ⟨rfl,h2,j2,st2,q2⟩);have H2:=aT h2;have J2:=aT j2;have B2:=aT (H1.out.blk B1.out st2.tch aU);have A2:=aT (H1.out.area A1.out st2.tch aU);have I2:=aT (I1.out.step H1.out st2 aU);have ST2:=aT (ST1.out.trans st2);have s2:=st2.size;have R2:=aT (show cX 307 w2 base g ga kind n1 ts from ⟨gj,A,n,c,B2.out,hg,J2.out,I2.out⟩);have e2:=B2.out.c0;have Q2:=aT (Q1.out.trans q2);clear h2 j2 st2 q2) | ((go_at_call 207;go_call (hfl _ J2.out H2.out aS A2.out) as e w3 ⟨rfl,h3,st3⟩);have H3:=aT h3;have ST3:=aT (ST2.out.trans (st3.mono (fun t ht=>aB _ ht)));have R3:=aT (R2.out.step H2.out st3 aU aU aU);have Q3:=aT (Q2.out.trans (OthK.of_step H2.out st3 aU));clear h3 st3) | fail);go_ret2;exact⟨rfl,H3.out,R3.out,ST3.out,Q3.out⟩
     · have hzb:(z2 != 0)=true:=by rw[ag];exact hz2
       rw[if_pos hz2] at hun;subst hun;clear hz2;go_enter Tryz.func123,Tryz.ntmps123;go_wp2_with (first | (go_at_call 202;go_call (his) as e w1 ⟨rfl,rfl⟩) | ((go_at_call 205;go_call (hwr) as e w1 ⟨C1,N1,d1,rfl,o1,b1⟩);have J1:=aT (HJ.out.below b1);have H1:=aT (HD.out.below b1);have A1:=aT (show bD w1 ga p.d f m from Blk.below HA.out b1 (Blk.lt HA.out));have B1:=aT (Blk.below HB.out b1 (Blk.lt HB.out));have I1:=aT (HI.out.below b1);have O1:=aT o1;have s1:=b1.size;have cp1:=o1.cap;have ST1:=aT (Step.of_below (M:=mutJ) (base:=base) (p:=p) b1 hs);have e1:=B1.out.c0;have Q1:=aT (OthK.of_below (kind:=kind) b1);clear o1 b1) | ((go_at_call 206;go_call (hadd _ _ _ _ J1.out H1.out aS A1.out O1.out.rd.rb aS) as e w2 ⟨rfl,h2,j2,st2,q2⟩);have H2:=aT h2;have J2:=aT j2;have B2:=aT (H1.out.blk B1.out st2.tch aU);have A2:=aT (H1.out.area A1.out st2.tch aU);have I2:=aT (I1.out.step H1.out st2 aU);have ST2:=aT (ST1.out.trans st2);have s2:=st2.size;have R2:=aT (show cX 307 w2 base g ga kind n1 ts from ⟨gj,A,n,c,B2.out,hg,J2.out,I2.out⟩);have e2:=B2.out.c0;have Q2:=aT (Q1.out.trans q2);clear h2 j2 st2 q2) | ((go_at_call 207;go_call (hfl _ J2.out H2.out aS A2.out) as e w3 ⟨rfl,h3,st3⟩);have H3:=aT h3;have ST3:=aT (ST2.out.trans (st3.mono (fun t ht=>aB _ ht)));have R3:=aT (R2.out.step H2.out st3 aU aU aU);have Q3:=aT (Q2.out.trans (OthK.of_step H2.out st3 aU));clear h3 st3) | fail);go_ret2;exact⟨rfl,H3.out,R3.out,ST3.out,Q3.out⟩
   · have hzb:(z1 != 0)=true:=by rw[ag];exact hz
     rw[if_pos hz] at hun;subst hun;clear hz;go_enter Tryz.func123,Tryz.ntmps123;go_wp2_with (first | (go_at_call 202;go_call (his) as e w1 ⟨rfl,rfl⟩) | ((go_at_call 205;go_call (hwr) as e w1 ⟨C1,N1,d1,rfl,o1,b1⟩);have J1:=aT (HJ.out.below b1);have H1:=aT (HD.out.below b1);have A1:=aT (show bD w1 ga p.d f m from Blk.below HA.out b1 (Blk.lt HA.out));have B1:=aT (Blk.below HB.out b1 (Blk.lt HB.out));have I1:=aT (HI.out.below b1);have O1:=aT o1;have s1:=b1.size;have cp1:=o1.cap;have ST1:=aT (Step.of_below (M:=mutJ) (base:=base) (p:=p) b1 hs);have e1:=B1.out.c0;have Q1:=aT (OthK.of_below (kind:=kind) b1);clear o1 b1) | ((go_at_call 206;go_call (hadd _ _ _ _ J1.out H1.out aS A1.out O1.out.rd.rb aS) as e w2 ⟨rfl,h2,j2,st2,q2⟩);have H2:=aT h2;have J2:=aT j2;have B2:=aT (H1.out.blk B1.out st2.tch aU);have A2:=aT (H1.out.area A1.out st2.tch aU);have I2:=aT (I1.out.step H1.out st2 aU);have ST2:=aT (ST1.out.trans st2);have s2:=st2.size;have R2:=aT (show cX 307 w2 base g ga kind n1 ts from ⟨gj,A,n,c,B2.out,hg,J2.out,I2.out⟩);have e2:=B2.out.c0;have Q2:=aT (Q1.out.trans q2);clear h2 j2 st2 q2) | fail);go_ret2;exact⟨rfl,H2.out,R2.out,ST2.out,Q2.out⟩
end
section
variable {w w':World} {base g ga f m next:Nat} {kind:Int} {ts:List Int} {p:bE} {D:aX}
theorem mI (h:cX 310 w base g ga kind next ts):Ca 204 #[.pointer (some ⟨g,0,none⟩)] w fun e w'=>e=.returned (.bool true)/\w=w':=by
 obtain⟨gj,A,n,c,hb,hg,hj,hi⟩:=h;have c0:=hb.c0;clear hb hj hi;go_enter Tryz.func204,Tryz.ntmps204;go_wp2;go_ret;exact⟨rfl,rfl⟩
theorem oC (h:cX 310 w base g ga kind next ts):Ca 120 #[.pointer (some ⟨g,0,none⟩)] w fun e w'=>e=.returned (I (next:Nat))/\w=w':=by
 have hi:=mI h;obtain⟨gj,A,n,c,hb,hg,hj,_⟩:=h;have c0:=hb.c0;have hl:=lF hj;clear hb hj;go_enter Tryz.func120,Tryz.ntmps120;go_wp2_with (first | (go_at_call 204;go_call (hi) as e w1 ⟨rfl,rfl⟩) | (go_at_call 203;go_call (hl) as e w1 ⟨rfl,rfl⟩) | fail);go_ret;exact⟨rfl,rfl⟩
theorem skget_any (h:cX 310 w base g ga kind next ts)(hd:be w base p D)(hs:base<=w.heap.size)(ha:bD w ga p.d f m)(hfm:f+m<=D.many)(hnm:next<=4096)(n:Int) :
 Ca 189 #[.pointer (some ⟨g,0,none⟩),I n] w fun e w'=>∃ B k d,e=.returned (.tuple #[.slice B k d,I (dm D f m kind next ts n).2.2])/\Ow iv w' w.heap.size 3 B k d (dm D f m kind next ts n).2.1/\be w' base p (dm D f m kind next ts n).1/\Step mutD base p w w':=by
 have his:=mI h;have HH:=aT h;obtain⟨gj,A,na,c,hb,hg,hj,hi⟩:=h;have c0:=hb.c0;have hget:=jget_any hj hd hs ha hfm hnm n;have HB:=aT hb;have HI:=aT hi;have HD:=aT hd;obtain⟨R,hR⟩:∃ R,R=eX D f m kind next n:=⟨_,rfl⟩;rw[<- hR] at hget;obtain⟨X,hX⟩:∃ X,X=dm D f m kind next ts n:=⟨_,rfl⟩;have hXR:X=if R.2.2≠0 then (R.1,[],R.2.2) else if (eK ts R.2.1).2≠0 then (R.1,[],41) else (R.1,(eK ts R.2.1).1,0):=by rw[hX,hR];rfl
 rw[<- hX];have HX:=aT hXR;clear hb hi hd hj hX hR hXR;obtain⟨D1,bs,z⟩:=R;simp only at hget HX
 by_cases hz:z=0
 · subst hz;have HX2:=aT (show X=if (eK ts bs).2≠0 then (D1,[],41) else (D1,(eK ts bs).1,0) from by rw[HX.out,if_neg aZ]);clear HX;have hrd:=fun (W:World) (B:Option Addr) (k d:Nat) (r1:RI W A na ts) (r2:RB W B k bs) (hk:k<=d) (hd:d<=maxLen)=>read_row A B na k c d ts bs W r1 r2 HI.out.len hk hd
   generalize hrr:eK ts bs=rr at *;obtain⟨l2,e2⟩:=rr;clear hrr;simp only at HX2
   by_cases he:e2=0
   · subst he;have HXX:=aT (show X=(D1,l2,0) from by rw[HX2.out,if_neg aZ]);clear HX2;go_enter Tryz.func189,Tryz.ntmps189;go_wp2_with (first | (go_at_call 204;go_call (his) as e w1 ⟨rfl,rfl⟩) | ((go_at_call 252;go_call (hget) as e w1 ⟨B1,k1,d1,rfl,o1,h1,st1⟩);have H1:=aT h1;have ST1:=aT st1;have I1:=aT (HI.out.step HD.out st1 aU);have OB1:=aT o1;have cp:=o1.cap;have s1:=st1.size;have hbk:=HD.out.blk HB.out st1.tch aU;have x1:=hbk.c1;clear o1 h1 st1 hbk) | ((go_at_call 165;go_call (hrd _ _ _ _ I1.out.ri OB1.out.rd.rb cp.1 cp.2) as e w2 ⟨B2,k2,d2,rfl,o2,b2⟩);have H2:=aT (H1.out.below b2);have ST2:=aT (ST1.out.then_below (b2.mono s1) hs);have O2:=aT (o2.rebase (base':=w.heap.size) s1);clear o2 b2) | fail);go_ret2;rw[HXX.out];exact⟨B2,k2,d2,rfl,O2.out,H2.out,ST2.out⟩
   · have heb:(e2 != 0)=true:=by rw[ag];exact he
     have heI:(((e2:Nat):Int) != 0)=true:=by rw[ag];omega
     have HXX:=aT (show X=(D1,[],41) from by rw[HX2.out,if_pos he]);clear HX2 he;go_enter Tryz.func189,Tryz.ntmps189;go_wp2_with (first | (go_at_call 204;go_call (his) as e w1 ⟨rfl,rfl⟩) | ((go_at_call 252;go_call (hget) as e w1 ⟨B1,k1,d1,rfl,o1,h1,st1⟩);have H1:=aT h1;have ST1:=aT st1;have I1:=aT (HI.out.step HD.out st1 aU);have OB1:=aT o1;have cp:=o1.cap;have s1:=st1.size;have hbk:=HD.out.blk HB.out st1.tch aU;have x1:=hbk.c1;clear o1 h1 st1 hbk) | ((go_at_call 165;go_call (hrd _ _ _ _ I1.out.ri OB1.out.rd.rb cp.1 cp.2) as e w2 ⟨B2,k2,d2,rfl,o2,b2⟩);have H2:=aT (H1.out.below b2);have ST2:=aT (ST1.out.then_below (b2.mono s1) hs);clear o2 b2) | fail);go_ret2;rw[HXX.out];exact⟨none,0,0,rfl,Ow.nil _ _ _ _,H2.out,ST2.out⟩
 · have hzb:(z != 0)=true:=by rw[ag];exact hz
   have HXX:=aT (show X=(D1,[],z) from by rw[HX.out,if_pos hz]);clear HX hz;go_enter Tryz.func189,Tryz.ntmps189;go_wp2_with (first | (go_at_call 204;go_call (his) as e w1 ⟨rfl,rfl⟩) | ((go_at_call 252;go_call (hget) as e w1 ⟨B1,k1,d1,rfl,o1,h1,st1⟩);have H1:=aT h1;have ST1:=aT st1;clear o1 h1 st1) | fail);go_ret2;rw[HXX.out];exact⟨none,0,0,rfl,Ow.nil _ _ _ _,H1.out,ST1.out⟩
end
theorem cX.parts (h:cX t w base g ga kind next ts) :
 ∃ gj A n c,Blk w g t [.pointer (some ⟨gj,0,none⟩),.slice A n c]/\base<=gj/\dc w gj ga kind next/\cK w base A n ts/\w.cell? ⟨g,0,none⟩=some (.pointer (some ⟨gj,0,none⟩))/\w.cell? ⟨g,1,none⟩=some (.slice A n c):=by
 obtain⟨gj,A,n,c,hb,hg,hj,hi⟩:=h;exact⟨gj,A,n,c,hb,hg,hj,hi,hb.cell 0,hb.cell 1⟩
section
variable {w w':World} {base g ga f m next:Nat} {kind:Int} {ts l:List Int} {p:bE} {D:aX}
theorem pW (h:cX 310 w base g ga kind next ts)(hd:be w base p D)(hs:base<=w.heap.size)(ha:bD w ga p.d f m) :
 Ca 208 #[.pointer (some ⟨g,0,none⟩)] w fun e w'=>e=.returned (I (bH D).2)/\be w' base p (bH D).1/\Step mutD base p w w':=by
 have his:=mI h;obtain⟨gj,A,n,c,hb,hg,hj,hi2,c0,c1⟩:=h.parts;have hfl:=pH hj hd hs ha;clear hb hj hi2 hd ha h;go_enter Tryz.func208,Tryz.ntmps208;go_wp2_with (first | (go_at_call 204;go_call (his) as e w1 ⟨rfl,rfl⟩) | (go_at_call 207;go_call (hfl) as e w1 ⟨rfl,h1,st1⟩) | fail);go_ret;exact⟨rfl,h1,st1⟩
end
section
variable {w w':World} {base g ga f m next:Nat} {kind:Int} {ts l:List Int} {p:bE} {D:aX}
theorem skputO_any (h:cX 310 w base g ga kind next ts)(hd:be w base p D)(hs:base<=w.heap.size)(ha:bD w ga p.d f m)(hfm:f+m<=D.many)(hm:m<=4096)(hnm:next<=m)(hw:D.waits.length<900000)(hr:da ts=true)(nn:Int)(B:Option Addr)(k d:Nat)(hl:RI w B k l)(hk:k<=maxLen)(hi:eN l) :
 Ca 211 #[.pointer (some ⟨g,0,none⟩),I nn,.slice B k d] w fun e w'=>e=.returned (.tuple #[.bool (ff D f m kind next ts nn l).2.2.1,I (ff D f m kind next ts nn l).2.2.2])/\be w' base p (ff D f m kind next ts nn l).1/\cX 310 w' base g ga kind (ff D f m kind next ts nn l).2.1 ts/\Step mutJ base p w w'/\OthK kind w w':=by
 have his:=mI h;have HJR:=aT h;obtain⟨gj,A,n,c,hb,hg,hj,hi2,c0,c1⟩:=h.parts;have hlen:=fun (W:World) (q:dc W gj ga kind next)=>lF q
 have hput:ff D f m kind next ts nn l=if nn<0\/(next:Int)<nn then (D,next,false,2)
  else if cx ts l=false then (D,next,false,41)
  else if nn<(next:Int) then (D,next,false,0)
  else if (cO D f m kind next (rowB ts l ts.length)).2.2.2≠0 then ((cO D f m kind next (rowB ts l ts.length)).1,(cO D f m kind next (rowB ts l ts.length)).2.1,false,(cO D f m kind next (rowB ts l ts.length)).2.2.2)
  else ((cO D f m kind next (rowB ts l ts.length)).1,(cO D f m kind next (rowB ts l ts.length)).2.1,true,0):=rfl
 have HB:=aT hb;have HJ:=aT hj;have HI:=aT hi2;have HD:=aT hd;have HA:=aT ha;generalize ff D f m kind next ts nn l=S at *
 by_cases h0:nn<0
 · rw[if_pos (.inl h0)] at hput;subst hput;clear hb hj hi2 hd ha h hl hi hw;go_enter Tryz.func211,Tryz.ntmps211;go_wp2_with (first | (go_at_call 204;go_call (his) as e w1 ⟨rfl,rfl⟩) | fail);go_ret2;exact⟨rfl,HD.out,HJR.out,Step.refl _ _ _ _,OthK.refl _ _⟩
 by_cases h1:(next:Int)<nn
 · rw[if_pos (.inr h1)] at hput;subst hput;clear hb hj hi2 hd ha h hl hi hw;go_enter Tryz.func211,Tryz.ntmps211;go_wp2_with (first | (go_at_call 204;go_call (his) as e w1 ⟨rfl,rfl⟩) | (go_at_call 203;go_call (hlen _ HJ.out) as e w1 ⟨rfl,rfl⟩) | fail);go_ret2;exact⟨rfl,HD.out,HJR.out,Step.refl _ _ _ _,OthK.refl _ _⟩
 rw[if_neg aS] at hput
 cases hf:cx ts l with
 | false=>
   rw[if_pos hf] at hput;have hwr:=write_row A B n k c d ts l w hi2.ri hl hi2.len hk hr hf;subst hput;clear hb hj hi2 hd ha h hl hi hw hf;go_enter Tryz.func211,Tryz.ntmps211;go_wp2_with (first | (go_at_call 204;go_call (his) as e w1 ⟨rfl,rfl⟩) | (go_at_call 203;go_call (hlen _ HJ.out) as e w1 ⟨rfl,rfl⟩) | (go_at_call 205;go_call (hwr) as e w1 ⟨rfl,rfl⟩) | fail);go_ret2;exact⟨rfl,HD.out,HJR.out,Step.refl _ _ _ _,OthK.refl _ _⟩
 | true=>
   rw[if_neg (by rw[hf];simp)] at hput;have hwr:=pt A B n k c d ts l w hi2.ri hl hi2.len hk hf hi
   by_cases h2:nn<(next:Int)
   · rw[if_pos h2] at hput;subst hput;clear hb hj hi2 hd ha h hl hi hf hw;go_enter Tryz.func211,Tryz.ntmps211;go_wp2_with (first | (go_at_call 204;go_call (his) as e w1 ⟨rfl,rfl⟩) | (go_at_call 203;(with_reducible refine (hlen _ HJ.out).mono ?_);rintro e w1 ⟨rfl,rfl⟩) | (go_at_call 203;(with_reducible refine (hlen _ J1.out).mono ?_);rintro e w2 ⟨rfl,rfl⟩) | ((go_at_call 205;go_call (hwr) as e w1 ⟨C1,N1,d1,rfl,o1,b1⟩);have J1:=aT (HJ.out.below b1);have H1:=aT (HD.out.below b1);have A1:=aT (show bD w1 ga p.d f m from Blk.below HA.out b1 (Blk.lt HA.out));have B1:=aT (Blk.below HB.out b1 (Blk.lt HB.out));have I1:=aT (HI.out.below b1);have O1:=aT o1;have s1:=b1.size;have cp1:=o1.cap;have ST1:=aT (Step.of_below (M:=mutJ) (base:=base) (p:=p) b1 hs);have e1:=B1.out.c0;have Q1:=aT (OthK.of_below (kind:=kind) b1);clear o1 b1) | fail);go_ret2;exact⟨rfl,H1.out,⟨gj,A,n,c,B1.out,hg,J1.out,I1.out⟩,ST1.out,Q1.out⟩
   · rw[if_neg h2] at hput;have hadd:=fun (W:World) (C:Option Addr) (N e:Nat) (h1:dc W gj ga kind next) (h2:be W base p D) (h3:base<=W.heap.size) (h4:bD W ga p.d f m) (h5:RB W C N (rowB ts l ts.length)) (h6:N<=maxLen)=>jaddO_any h1 h2 h3 hg h4 hfm hm hnm aS C N e _ h5 h6
     generalize cO D f m kind next (rowB ts l ts.length)=R at *;obtain⟨D1,n1,v1,z1⟩:=R;simp only at hput hadd;clear hb hj hi2 hd ha h hl hi hf hw
     by_cases hz:z1=0
     · subst hz;rw[if_neg aZ] at hput;subst hput;go_enter Tryz.func211,Tryz.ntmps211;go_wp2_with (first | (go_at_call 204;go_call (his) as e w1 ⟨rfl,rfl⟩) | (go_at_call 203;(with_reducible refine (hlen _ HJ.out).mono ?_);rintro e w1 ⟨rfl,rfl⟩) | (go_at_call 203;(with_reducible refine (hlen _ J1.out).mono ?_);rintro e w2 ⟨rfl,rfl⟩) | ((go_at_call 205;go_call (hwr) as e w1 ⟨C1,N1,d1,rfl,o1,b1⟩);have J1:=aT (HJ.out.below b1);have H1:=aT (HD.out.below b1);have A1:=aT (show bD w1 ga p.d f m from Blk.below HA.out b1 (Blk.lt HA.out));have B1:=aT (Blk.below HB.out b1 (Blk.lt HB.out));have I1:=aT (HI.out.below b1);have O1:=aT o1;have s1:=b1.size;have cp1:=o1.cap;have ST1:=aT (Step.of_below (M:=mutJ) (base:=base) (p:=p) b1 hs);have e1:=B1.out.c0;have Q1:=aT (OthK.of_below (kind:=kind) b1);clear o1 b1) | ((go_at_call 206;go_call (hadd _ _ _ _ J1.out H1.out aS A1.out O1.out.rd.rb aS) as e w2 ⟨rfl,h2,j2,st2,q2⟩);have H2:=aT h2;have J2:=aT j2;have B2:=aT (H1.out.blk B1.out st2.tch aU);have A2:=aT (H1.out.area A1.out st2.tch aU);have I2:=aT (I1.out.step H1.out st2 aU);have ST2:=aT (ST1.out.trans st2);have s2:=st2.size;have R2:=aT (show cX 310 w2 base g ga kind n1 ts from ⟨gj,A,n,c,B2.out,hg,J2.out,I2.out⟩);have e2:=B2.out.c0;have Q2:=aT (Q1.out.trans q2);clear h2 j2 st2 q2) | fail);go_ret2;exact⟨rfl,H2.out,R2.out,ST2.out,Q2.out⟩
     · have hzb:(z1 != 0)=true:=by rw[ag];exact hz
       rw[if_pos hz] at hput;subst hput;clear hz;go_enter Tryz.func211,Tryz.ntmps211;go_wp2_with (first | (go_at_call 204;go_call (his) as e w1 ⟨rfl,rfl⟩) | (go_at_call 203;(with_reducible refine (hlen _ HJ.out).mono ?_);rintro e w1 ⟨rfl,rfl⟩) | (go_at_call 203;(with_reducible refine (hlen _ J1.out).mono ?_);rintro e w2 ⟨rfl,rfl⟩) | ((go_at_call 205;go_call (hwr) as e w1 ⟨C1,N1,d1,rfl,o1,b1⟩);have J1:=aT (HJ.out.below b1);have H1:=aT (HD.out.below b1);have A1:=aT (show bD w1 ga p.d f m from Blk.below HA.out b1 (Blk.lt HA.out));have B1:=aT (Blk.below HB.out b1 (Blk.lt HB.out));have I1:=aT (HI.out.below b1);have O1:=aT o1;have s1:=b1.size;have cp1:=o1.cap;have ST1:=aT (Step.of_below (M:=mutJ) (base:=base) (p:=p) b1 hs);have e1:=B1.out.c0;have Q1:=aT (OthK.of_below (kind:=kind) b1);clear o1 b1) | ((go_at_call 206;go_call (hadd _ _ _ _ J1.out H1.out aS A1.out O1.out.rd.rb aS) as e w2 ⟨rfl,h2,j2,st2,q2⟩);have H2:=aT h2;have J2:=aT j2;have B2:=aT (H1.out.blk B1.out st2.tch aU);have A2:=aT (H1.out.area A1.out st2.tch aU);have I2:=aT (I1.out.step H1.out st2 aU);have ST2:=aT (ST1.out.trans st2);have s2:=st2.size;have R2:=aT (show cX 310 w2 base g ga kind n1 ts from ⟨gj,A,n,c,B2.out,hg,J2.out,I2.out⟩);have e2:=B2.out.c0;have Q2:=aT (Q1.out.trans q2);clear h2 j2 st2 q2) | fail);go_ret2;exact⟨rfl,H2.out,R2.out,ST2.out,Q2.out⟩
end
