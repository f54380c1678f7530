/- Parts. -/
import Derived.Test.YtmeebofhlilcmaaGreatPr22
import Derived.Test.YtmeebofhlilcmaaGreatPr20
set_option linter.unusedVariables false
set_option linter.unusedSimpArgs false
set_option maxRecDepth 100000
set_option maxHeartbeats 0
namespace Go.Proofs.YtmeebofhlilcmaaGreat
variable {p:PV} {m next nOut' nIn':Nat} {kind:Int} {ts cells':List Int} {k':KpV} {cs:List Value}
open Go.RowKit
section
variable {w w':World} {base g ga gb fl ml fr mr:Nat} {q:bE} {D:aX} {x:PA} {p:PV} {hash tick:Int} {k:KpV} {cells:List Int} {A:Option Addr} {n c:Nat}
theorem cC.drew_ {w:World}{x:PA}(h:cC w x p):cC w.drew x p:=h.below (b:=w.heap.size) (Below.drew (Below.refl _ _)) aW
def SvCut (w:World)(tick hash:Int)(n:Nat)(cells:List Int)(t:Value)(wx:World):Prop :=
 ∃ gx A5 c5,t=.pointer (some ⟨gx,0,none⟩)/\Blk wx gx 139 [I tick,I hash,.slice A5 n c5]/\(∃ b,w.heap.size<=b/\Ow iv wx b 3 A5 n c5 cells)/\Below w.heap.size w wx/\w.heap.size<=gx
theorem ksave_any {X:Nat->Prop}(hX:∀ b,w.heap.size<=b->¬ X b)(h:iM X w base g ga gb x p hash k)(hmay:mayB p=true)(hd:be w base q D)(hs:base<=w.heap.size)(hal:bD w ga q.d fl ml)(har:bD w gb q.d fr mr)(hml:5<=ml)(hmr:5<=mr)(hfl:fl+ml<=D.many)(hfr:fr+mr<=D.many)
 (hc:cK w base A n cells) (hn:n<=1000) (hnb:-9223372036854775808<=k.s.number/\k.s.number<=9223372036854775807) (hw:D.waits.length<800000) :
 Ca 209 #[.pointer (some ⟨g,0,none⟩),I tick,.slice A n c] w fun e w'=>e=.returned (I (eM D fl ml fr mr p hash k tick cells).2.2)/\be w' base q (eM D fl ml fr mr p hash k tick cells).1/\iM X w' base g ga gb x p hash (eM D fl ml fr mr p hash k tick cells).2.1/\Step mutK base q w w':=by
 have HK:=aT h;obtain⟨gs,A1,n1,c1,b1,b2,b3,b4,b5,b6,b7,b8,b9⟩:=h;obtain⟨k0,k1,k2,k3,k4,k5,k6⟩:=(show w.cell? ⟨g,0,none⟩=some (.pointer (some ⟨gs,0,none⟩))/\w.cell? ⟨g,1,none⟩=some (.slice x.A1 x.n1 x.c1)/\w.cell? ⟨g,2,none⟩=some (.slice x.A2 x.n2 x.c2)/\w.cell? ⟨g,3,none⟩=some (I p.regs)/\w.cell? ⟨g,4,none⟩=some (.slice x.A3 x.n3 x.c3)/\w.cell? ⟨g,5,none⟩=some (.slice x.A4 x.n4 x.c4)/\w.cell? ⟨g,6,none⟩=some (I hash) from ⟨b1.cell 0,b1.cell 1,b1.cell 2,b1.cell 3,b1.cell 4,b1.cell 5,b1.cell 6⟩);have hgl:=b1.lt;have B1:=aT b1;have S1:=aT b4;have I1:=aT b5;have P1:=aT b8;have HC:=aT hc;have HD:=aT hd;have hlen:=hc.ri.1;have HL:=aT hlen;have hnm:n<=maxLen:=by unfold maxLen;omega
 clear b1 b4 b5 b8 hc hd hlen;have hwr0:=fun (W:World) (B:Option Addr) (d:Nat) (h:cC W x p) (hl:RI W B n cells)=>statewrite_row x p tick hash B n d cells W h hl hnm hmay
 have hwr1:=fun (W:World) (B:Option Addr) (d:Nat) (h:cC W x p) (hl:RI W B n cells)=>statewrite_ok x p tick hash B n d cells W h hl hnm
 have hR:eM D fl ml fr mr p hash k tick cells=if fd p ⟨tick,hash,cells⟩=false then (D,k,41)
  else if (dj D fl ml fr mr k.s (stBs ⟨tick,hash,cells⟩)).2.2≠0 then ((dj D fl ml fr mr k.s (stBs ⟨tick,hash,cells⟩)).1,{ k with s:=(dj D fl ml fr mr k.s (stBs ⟨tick,hash,cells⟩)).2.1 },(dj D fl ml fr mr k.s (stBs ⟨tick,hash,cells⟩)).2.2)
  else ((dj D fl ml fr mr k.s (stBs ⟨tick,hash,cells⟩)).1,⟨(dj D fl ml fr mr k.s (stBs ⟨tick,hash,cells⟩)).2.1,⟨tick,hash,cells⟩,true⟩,0):=rfl
 have HR:=aT hR;clear hR;generalize eM D fl ml fr mr p hash k tick cells=R at *;go_enter Tryz.func209,Tryz.ntmps209;go_upto_region 3 with fail;go_cut [7] (fun t wx=>SvCut w tick hash n cells t wx)
 case first=>
  refine wp_region_held_drew (S:=fun w'=>w'.cell? ⟨g,2+4,none⟩=some (I hash)) bM k6 (fun hHeld=>?_);refine aV 0 ?_;refine aV 1 ?_;refine aV 2 ?_;refine aV 3 ?_;refine aV 4 ?_ (hy:=Or.inl ⟨by rfl,by (exact nt)⟩);refine aV 6 ?_;refine wpAnyH_ready (rs:=[5,9]) bT aZ ?_;refine AllReadyH.cons rfl (fun K hK=>?_) (AllReadyH.cons rfl (fun K hK=>?_) AllReadyH.nil)
  · go_simp;have b1:Below w.heap.size w (w.alloc (.cells #[] 3)).drew:=bc;have e1:=(b1.cell (p:=⟨g,2+4,none⟩) hgl).trans k6;have o1:Ow iv (w.alloc (.cells #[] 3)).drew w.heap.size 3 (some ⟨w.heap.size,0,none⟩) 0 0 []:=(Ow.new w 3 #[] [] rfl aU);refine hK.out _ _ (e1) (fun hHeld=>?_);clear hK K;refine bJ ?_;refine wpAnyH_ready (rs:=[7,9]) bT aZ ?_;refine AllReadyH.cons rfl (fun K hK=>?_) (AllReadyH.cons rfl (fun K hK=>?_) AllReadyH.nil)
    · refine eF (α:=Int) (enc:=iv) rfl rfl fF gq (s:=.tmp 25) (N:=n) (L:=cells) rfl o1 rfl (k:=cells) (HC.out.ri.below (B:=w.heap.size) b1 aW).rd aS rfl hnm aS aZ ?_;intro A5 c5 w5 hown5 hg5 hat5 hb5;have b5:=b1.trans hb5;have e5:=(b5.cell (p:=⟨g,2+4,none⟩) hgl).trans k6;refine hK.out _ _ (e5) (fun hHeld=>?_);clear hK K;refine bJ ?_;refine aV 8 ?_;refine bR 9 (fun K hK=>?_);go_simp;have b6:Below w.heap.size w (w5.alloc (.cells #[I 0,I 0,.slice none 0 0] 139)):=b5.alloc b5.size _;have e6:=(b6.cell (p:=⟨g,2+4,none⟩) hgl).trans k6;refine hK.out _ _ (e6) (fun hHeld=>?_);clear hK K;refine bJ ?_;refine bR 10 (fun K hK=>?_);go_simp;have b7:Below w.heap.size w (w5.alloc (.cells #[I tick,I hash,.slice A5 n c5] 139)):=b5.alloc b5.size _;have e7:=(b7.cell (p:=⟨g,2+4,none⟩) hgl).trans k6;refine hK.out _ _ (e7) (fun hHeld=>?_);clear hK K;refine bJ ?_;refine wpAnyH_done bT ?_ _;go_wp2_with fail;go_meet;exact⟨w5.heap.size,A5,c5,rfl,Blk.top _ rfl rfl,⟨_,Nat.le_refl _,hown5.below (b:=w5.heap.size) ((Below.refl _ _).alloc aW _) aW⟩,b7,b5.size⟩
    · go_simp;have b2:Below w.heap.size w ((w.alloc (.cells #[] 3)).alloc (.cells #[I 0,I 0,.slice none 0 0] 139)).drew:=bc;have e2:=(b2.cell (p:=⟨g,2+4,none⟩) hgl).trans k6;have X2:Blk ((w.alloc (.cells #[] 3)).alloc (.cells #[I 0,I 0,.slice none 0 0] 139)).drew (w.heap.size+1) 139 [I 0,I 0,.slice none 0 0]:=Blk.drew (Blk.top _ aZ rfl);have o2:Ow iv ((w.alloc (.cells #[] 3)).alloc (.cells #[I 0,I 0,.slice none 0 0] 139)).drew w.heap.size 3 (some ⟨w.heap.size,0,none⟩) 0 0 []:=(Ow.new (enc:=iv) w 3 #[] [] rfl aU).below (b:=(w.alloc (.cells #[] 3)).heap.size) (Below.drew ((Below.refl _ _).alloc aW _)) aW;refine hK.out _ _ (e2) (fun hHeld=>?_);clear hK K;refine bJ ?_;refine bR 7 (fun K hK=>?_);refine eF (α:=Int) (enc:=iv) rfl rfl fF gq (s:=.tmp 25) (N:=n) (L:=cells) rfl o2 rfl (k:=cells) (HC.out.ri.below (B:=w.heap.size) b2 aW).rd aS rfl hnm aS dv ?_;intro A5 c5 w5 hown5 hg5 hat5 hb5;have b5:=b2.trans hb5;have e5:=(b5.cell (p:=⟨g,2+4,none⟩) hgl).trans k6;have X5:=X2.grown hg5 aZ;obtain⟨u0,u1,u2⟩:=blk3 X5;have v0:=X5.frozen 0;have v1:=X5.frozen 1;have v2:=X5.frozen 2;have lx:=X5.lt;refine hK.out _ _ (e5) (fun hHeld=>?_);clear hK K;refine bJ ?_;refine aV 8 ?_;refine bR 10 (fun K hK=>?_);go_simp;have b7:Below w.heap.size w (((w5.setCell ⟨w.heap.size+1,0,none⟩ (I tick)).setCell ⟨w.heap.size+1,1,none⟩ (I hash)).setCell ⟨w.heap.size+1,2,none⟩ (.slice A5 n c5)):=((b5.setCell aZ _).setCell aZ _).setCell aZ _;have e7:=(b7.cell (p:=⟨g,2+4,none⟩) hgl).trans k6;have X7:=((X5.set_ 0 (I tick)).set_ 1 (I hash)).set_ 2 (.slice A5 n c5);have o7:=((hown5.setFar X5 aU 0 (I tick)).setFar (X5.set_ 0 (I tick)) aU 1 (I hash)).setFar ((X5.set_ 0 (I tick)).set_ 1 (I hash)) aU 2 (.slice A5 n c5);refine hK.out _ _ (e7) (fun hHeld=>?_);clear hK K;refine bJ ?_;refine wpAnyH_done bT ?_ _;go_wp2_with fail;go_meet;exact⟨w.heap.size+1,A5,c5,rfl,X7,⟨_,Nat.le_refl _,o7⟩,b7,aS⟩
  · go_simp;have b1:Below w.heap.size w (w.alloc (.cells #[I 0,I 0,.slice none 0 0] 139)).drew:=bc;have e1:=(b1.cell (p:=⟨g,2+4,none⟩) hgl).trans k6;refine hK.out _ _ (e1) (fun hHeld=>?_);clear hK K;refine bJ ?_;refine bR 5 (fun K hK=>?_);go_simp;have b2:Below w.heap.size w ((w.alloc (.cells #[I 0,I 0,.slice none 0 0] 139)).alloc (.cells #[] 3)).drew:=bc;have e2:=(b2.cell (p:=⟨g,2+4,none⟩) hgl).trans k6;have X2:Blk ((w.alloc (.cells #[I 0,I 0,.slice none 0 0] 139)).alloc (.cells #[] 3)).drew w.heap.size 139 [I 0,I 0,.slice none 0 0]:=Blk.drew ((Blk.top _ rfl rfl).alloc _);have o2:Ow iv ((w.alloc (.cells #[I 0,I 0,.slice none 0 0] 139)).alloc (.cells #[] 3)).drew w.heap.size 3 (some ⟨w.heap.size+1,0,none⟩) 0 0 []:=by
     have:=(Ow.new (enc:=iv) (w.alloc (.cells #[I 0,I 0,.slice none 0 0] 139)) 3 #[] [] rfl aU).rebase (base':=w.heap.size) aZ;exact Ow.drew' (by simpa using this)
    refine hK.out _ _ (e2) (fun hHeld=>?_);clear hK K;refine bJ ?_;refine bR 7 (fun K hK=>?_);refine eF (α:=Int) (enc:=iv) rfl rfl fF gq (s:=.tmp 25) (N:=n) (L:=cells) rfl o2 rfl (k:=cells) (HC.out.ri.below (B:=w.heap.size) b2 aW).rd aS rfl hnm aS dv ?_;intro A5 c5 w5 hown5 hg5 hat5 hb5;have b5:=b2.trans hb5;have e5:=(b5.cell (p:=⟨g,2+4,none⟩) hgl).trans k6;have X5:=X2.grown hg5 aZ;obtain⟨u0,u1,u2⟩:=blk3 X5;have v0:=X5.frozen 0;have v1:=X5.frozen 1;have v2:=X5.frozen 2;have lx:=X5.lt;refine hK.out _ _ (e5) (fun hHeld=>?_);clear hK K;refine bJ ?_;refine aV 8 ?_;refine bR 10 (fun K hK=>?_);go_simp;have b7:Below w.heap.size w (((w5.setCell ⟨w.heap.size,0,none⟩ (I tick)).setCell ⟨w.heap.size,1,none⟩ (I hash)).setCell ⟨w.heap.size,2,none⟩ (.slice A5 n c5)):=((b5.setCell aZ _).setCell aZ _).setCell aZ _;have e7:=(b7.cell (p:=⟨g,2+4,none⟩) hgl).trans k6;have X7:=((X5.set_ 0 (I tick)).set_ 1 (I hash)).set_ 2 (.slice A5 n c5);have o7:=((hown5.setFar X5 aU 0 (I tick)).setFar (X5.set_ 0 (I tick)) aU 1 (I hash)).setFar ((X5.set_ 0 (I tick)).set_ 1 (I hash)) aU 2 (.slice A5 n c5);refine hK.out _ _ (e7) (fun hHeld=>?_);clear hK K;refine bJ ?_;refine wpAnyH_done bT ?_ _;go_wp2_with fail;go_meet;exact⟨w.heap.size,A5,c5,rfl,X7,⟨_,Nat.le_refl _,o7⟩,b7,aS⟩
 case rest=>
  obtain⟨gx,A5,c5,rfl,hx5,⟨b5,hb5b,ho5⟩,hbel,hgx⟩:=hcut;have X5:=aT hx5;have O5:=aT ho5;have K5:=aT (B1.out.below hbel hgl);have S5:=aT (S1.out.below hbel);have I5:=aT (I1.out.below hbel);have P5:=aT (P1.out.below hbel);have D5:=aT (HD.out.below hbel);have AL5:=aT (show bD wc ga q.d fl ml from Blk.below hal hbel (Blk.lt hal));have AR5:=aT (show bD wc gb q.d fr mr from Blk.below har hbel (Blk.lt har));have ST5:=aT (show Step mutK base q w wc from Step.of_below hbel hs);have s5:=hbel.size;have hgc:=K5.out.lt;have hxc:=X5.out.lt;obtain⟨y0,y1,y2,y3,y4,y5⟩:=(show wc.cell? ⟨g,0,none⟩=some (.pointer (some ⟨gs,0,none⟩))/\wc.cell? ⟨g,1,none⟩=some (.slice x.A1 x.n1 x.c1)/\wc.cell? ⟨g,1+1,none⟩=some (.slice x.A2 x.n2 x.c2)/\wc.cell? ⟨g,1+2,none⟩=some (I p.regs)/\wc.cell? ⟨g,1+3,none⟩=some (.slice x.A3 x.n3 x.c3)/\wc.cell? ⟨g,1+4,none⟩=some (.slice x.A4 x.n4 x.c4) from ⟨K5.out.cell 0,K5.out.cell 1,K5.out.cell 2,K5.out.cell 3,K5.out.cell 4,K5.out.cell 5⟩);obtain⟨v0,v1,v2⟩:=blk3 X5.out;clear hx5 ho5 hbel k0 k1 k2 k3 k4 k5 k6 HK B1 S1 I1 P1 HD hal har HC HL
  cases hf:fd p ⟨tick,hash,cells⟩ with
  | false=>
    have HR2:=aT (HR.out.trans (if_pos hf));have hwr:=fun (W:World) (B:Option Addr) (d:Nat) (h:cC W x p) (hl:RI W B n cells)=>hwr0 W B d h hl hf
    clear hwr0 hwr1 hf HR;go_upto_region 4 with fail;go_region_held3 (fun w'=>w'.cell? ⟨g,1,none⟩=some (.slice x.A1 x.n1 x.c1)/\w'.cell? ⟨g,1+1,none⟩=some (.slice x.A2 x.n2 x.c2)/\w'.cell? ⟨g,1+2,none⟩=some (I p.regs)/\w'.cell? ⟨g,1+3,none⟩=some (.slice x.A3 x.n3 x.c3)/\w'.cell? ⟨g,1+4,none⟩=some (.slice x.A4 x.n4 x.c4)/\w'.cell? ⟨gx,0,none⟩=some (I tick)/\w'.cell? ⟨gx,1,none⟩=some (I hash)/\w'.cell? ⟨gx,2,none⟩=some (.slice A5 n c5)) (first | go_keep | (refine⟨?_,?_,?_,?_,?_,?_,?_,?_⟩ <;> assumption)) (first | ((go_at_call 263;go_call (hwr wc.drew _ _ P5.out.rd.drew_ (Ow.drew' O5.out).rd.ri) as e w6 ⟨rfl,hb6⟩);have hb56:Below wc.heap.size wc w6:=(Below.drew (Below.refl _ _)).trans hb6;have K6:=aT (K5.out.below hb56 hgc);have X6:=aT (X5.out.below hb56 hxc);obtain⟨p0,p1,p2,p3,p4,p5⟩:=(show w6.cell? ⟨g,0,none⟩=some (.pointer (some ⟨gs,0,none⟩))/\w6.cell? ⟨g,1,none⟩=some (.slice x.A1 x.n1 x.c1)/\w6.cell? ⟨g,1+1,none⟩=some (.slice x.A2 x.n2 x.c2)/\w6.cell? ⟨g,1+2,none⟩=some (I p.regs)/\w6.cell? ⟨g,1+3,none⟩=some (.slice x.A3 x.n3 x.c3)/\w6.cell? ⟨g,1+4,none⟩=some (.slice x.A4 x.n4 x.c4) from ⟨K6.out.cell 0,K6.out.cell 1,K6.out.cell 2,K6.out.cell 3,K6.out.cell 4,K6.out.cell 5⟩);obtain⟨q0,q1,q2⟩:=blk3 X6.out) | fail);go_wp2_with fail;go_ret;rw[HR2.out];exact⟨rfl,D5.out.below hb56,⟨gs,A1,n1,c1,K6.out,b2,b3,S5.out.below hb56,I5.out.below hb56,b6,b7,P5.out.below hb56,b9⟩,ST5.out.then_below (hb56.mono s5) hs⟩
  | true=>
    have HR2:=aT (HR.out.trans (if_neg (by rw[hf];simp)));have hwr:=fun (W:World) (B:Option Addr) (d:Nat) (h:cC W x p) (hl:RI W B n cells)=>hwr1 W B d h hl hf
    clear hwr0 hwr1 hf HR;go_upto_region 4 with fail;go_region_held3 (fun w'=>w'.cell? ⟨g,1,none⟩=some (.slice x.A1 x.n1 x.c1)/\w'.cell? ⟨g,1+1,none⟩=some (.slice x.A2 x.n2 x.c2)/\w'.cell? ⟨g,1+2,none⟩=some (I p.regs)/\w'.cell? ⟨g,1+3,none⟩=some (.slice x.A3 x.n3 x.c3)/\w'.cell? ⟨g,1+4,none⟩=some (.slice x.A4 x.n4 x.c4)/\w'.cell? ⟨gx,0,none⟩=some (I tick)/\w'.cell? ⟨gx,1,none⟩=some (I hash)/\w'.cell? ⟨gx,2,none⟩=some (.slice A5 n c5)) (first | go_keep | (refine⟨?_,?_,?_,?_,?_,?_,?_,?_⟩ <;> assumption)) (first | ((go_at_call 263;go_call (hwr wc.drew _ _ P5.out.rd.drew_ (Ow.drew' O5.out).rd.ri) as e w6 ⟨A6,n6,c6,rfl,ob6,hb6⟩);have hb56:Below wc.heap.size wc w6:=(Below.drew (Below.refl _ _)).trans hb6;have K6:=aT (K5.out.below hb56 hgc);have X6:=aT (X5.out.below hb56 hxc);obtain⟨p0,p1,p2,p3,p4,p5⟩:=(show w6.cell? ⟨g,0,none⟩=some (.pointer (some ⟨gs,0,none⟩))/\w6.cell? ⟨g,1,none⟩=some (.slice x.A1 x.n1 x.c1)/\w6.cell? ⟨g,1+1,none⟩=some (.slice x.A2 x.n2 x.c2)/\w6.cell? ⟨g,1+2,none⟩=some (I p.regs)/\w6.cell? ⟨g,1+3,none⟩=some (.slice x.A3 x.n3 x.c3)/\w6.cell? ⟨g,1+4,none⟩=some (.slice x.A4 x.n4 x.c4) from ⟨K6.out.cell 0,K6.out.cell 1,K6.out.cell 2,K6.out.cell 3,K6.out.cell 4,K6.out.cell 5⟩);obtain⟨q0,q1,q2⟩:=blk3 X6.out) | fail);have OB6:=aT ob6;have cp6:=ob6.cap;have hbs6:base<=w6.heap.size:=by have:=hb56.size;omega
    have S6:=aT (S5.out.below hb56);have D6:=aT (D5.out.below hb56);have I6:=aT (I5.out.below hb56);have P6:=aT (P5.out.below hb56);have O6:=aT (O5.out.below (b:=wc.heap.size) hb56 aW);have AL6:=aT (show bD w6 ga q.d fl ml from Blk.below AL5.out hb56 (Blk.lt AL5.out));have AR6:=aT (show bD w6 gb q.d fr mr from Blk.below AR5.out hb56 (Blk.lt AR5.out));have ST6:=aT (ST5.out.then_below (hb56.mono s5) hs);have hlb:n6<=512\/512<n6:=aS;have hfl6:=ob6.rd.1;have hsv:=save_any (load:=stBs ⟨tick,hash,cells⟩) (A:=A6) (n:=n6) (c:=c6) S6.out D6.out hbs6 b2 AL6.out AR6.out hml hmr hfl hfr (eq.of_ob OB6.out) cp6.1 cp6.2 hnb hw;generalize dj D fl ml fr mr k.s (stBs ⟨tick,hash,cells⟩)=V at *;obtain⟨D',s',z⟩:=V;simp only at hsv HR2;clear hb6 hb56 ob6 hwr X5 O5 K5 S5 I5 P5 D5 AL5 AR5 ST5 hlb hfl6;go_upto_region 8 with (first | ((go_at_call 264;go_call (hsv) as e w7 ⟨rfl,d7,sl7,t7⟩);have D7:=aT d7;have S7:=aT sl7;have K7:=aT (D6.out.blk K6.out t7.tch aU);have X7:=aT (D6.out.blk X6.out t7.tch aU);have I7:=aT (I6.out.step D6.out t7 aU);have P7:=aT (P6.out.step D6.out t7 aU aU aU);have O7:=aT (D6.out.ow O6.out t7.tch aU);have ST7:=aT (ST6.out.trans t7.toK);have s7:=t7.size;clear d7 sl7 t7) | fail)
    by_cases hz:z=0
    · subst hz;have HR3:=aT (HR2.out.trans (if_neg aZ));have hgl7:=K7.out.lt;obtain⟨p7,p8,p9,p10⟩:=(show w7.cell? ⟨g,7,none⟩=some (I k.last.tick)/\w7.cell? ⟨g,8,none⟩=some (I k.last.hash)/\w7.cell? ⟨g,9,none⟩=some (.slice A1 n1 c1)/\w7.cell? ⟨g,10,none⟩=some (.bool k.has) from ⟨K7.out.cell 7,K7.out.cell 8,K7.out.cell 9,K7.out.cell 10⟩);obtain⟨t0,t1,t2⟩:=blk3 X7.out;have f7:=K7.out.frozen 7;have f8:=K7.out.frozen 8;have f9:=K7.out.frozen 9;have f10:=K7.out.frozen 10;have hbs7:base<=w7.heap.size:=aS;go_wp2_with fail;go_ret;rw[HR3.out];obtain⟨t8,b8,d8⟩:=keep_set4 (q:=q) (D:=D') K7.out b3 hbs7 (I tick) (I hash) (.slice A5 n c5) (.bool true);have cp7:=O7.out.cap;exact⟨rfl,d8 D7.out,⟨gs,A5,n,c5,b8,b2,b3,S7.out.stepM D7.out t8 aU aU,(cK.of_ow O7.out).step D7.out t8 aU,cp7.1,cp7.2,P7.out.step D7.out t8 aU aU aU,fun b e=>hX b (ae hb5b (O7.out.lt b e).1)⟩,ST7.out.trans (t8.mono (fun t ht=>by rw[List.mem_singleton] at ht;rw[ht];exact aC ..))⟩
    · have HR3:=aT (HR2.out.trans (if_pos hz));have hzb:(z != 0)=true:=by rw[ag];exact hz
      clear hz;go_wp2_with fail;go_ret;rw[HR3.out];exact⟨rfl,D7.out,⟨gs,A1,n1,c1,K7.out,b2,b3,S7.out,I7.out,b6,b7,P7.out,b9⟩,ST7.out⟩
end
structure EP where
 gm:Nat
 gi:Nat
 go:Nat
 gk:Nat
 gl:Nat
 gs:Nat
 ga:Nat
 gb:Nat
 A:Option Addr
 n:Nat
 c:Nat
 y:PA
 x:PA
def engC (e:EP)(pace:Int)(E:EgV):List Value :=
 [.pointer (some ⟨e.gm,0,none⟩),.pointer (some ⟨e.gi,0,none⟩),.pointer (some ⟨e.go,0,none⟩),.pointer (some ⟨e.gk,0,none⟩),.slice e.A e.n e.c,I pace,I E.tick,I E.passed,I E.replayed,.bool E.put,.bool E.off]
def mutE:List TypeId:=180 :: 363 :: mutK
def engT:List TypeId:=[285,307,310,363,302,336,5,3,187,144,289]
structure EngR (w:World)(base:Nat)(q:bE)(e:EP)(m:Nat)(p:PV)(hash:Int)(nIn nOut:Nat)(k:KpV)(cells:List Int):Prop where
 mach:fX w base e.gm e.y p
 inn:cX 307 w base e.gi e.gl 3 nIn p.ins
 out:cX 310 w base e.go e.gs 4 nOut p.outs
 kp:kX w base e.gk e.ga e.gb e.x p hash k
 ce:cK w base e.A e.n cells
 al:bD w e.gl q.d 11 m
 as_:bD w e.gs q.d (11+m) m
 aa:bD w e.ga q.d 1 5
 ab:bD w e.gb q.d 6 5
structure cF (w:World)(base:Nat)(q:bE)(g:Nat)(e:EP)(m:Nat)(p:PV)(hash pace:Int)(E:EgV):Prop where
 b:Blk w g 180 (engC e pace E)
 gb:base<=g
 r:EngR w base q e m p hash E.nIn E.nOut E.k E.cells
structure EgOk (m:Nat)(p:PV)(E:EgV):Prop where
 i0:E.nIn<=m
 o0:E.nOut<=m
 t0:0<=E.tick
 t1:E.tick<=(E.nIn:Int)
 p0:0<=E.passed
 p1:E.passed<=E.tick
 r0:0<=E.replayed
 r1:E.replayed<=E.tick
 cf:ia p E.cells=true
 c64:∀ z ∈ E.cells,In64 z
 kl:E.k.last.cells.length<=100
 kn:-9223372036854775808<=E.k.s.number/\E.k.s.number<=9223372036854775807
structure PrgW (p:PV)(m:Nat):Prop where
 hv:dF p=true
 hw:eO p
 m2:m<=1024
theorem PrgW.may (G:PrgW p m):mayB p=true:=(jK G.hv).1
theorem PrgW.c60 (G:PrgW p m):p.cells.length<=60:=(dV.1 G.may).2.2.2.2.1
theorem PrgW.ins (G:PrgW p m):da p.ins=true:=(dV.1 G.may).1
theorem PrgW.outs (G:PrgW p m):da p.outs=true:=(dV.1 G.may).2.1
section
variable {M:List TypeId} {w w':World} {base g m nIn nOut:Nat} {q:bE} {D D':aX} {e:EP} {p:PV} {hash pace:Int} {k:KpV} {cells:List Int} {E:EgV}
theorem fX.step {y:PA}{gm:Nat}(h:fX w base gm y p)(hd:be w base q D)(t:Step M base q w w')(h1:285 ∉ 4 :: M)(h2:3 ∉ 4 :: M)(h3:187 ∉ 4 :: M)(h4:144 ∉ 4 :: M):fX w' base gm y p :=
 ⟨hd.blk h.b t.tch h1,h.gb,h.pr.step hd t h2 h3 h4⟩
theorem EngR.step (h:EngR w base q e m p hash nIn nOut k cells)(hd:be w base q D)(t:Step M base q w w')(hM:∀ x ∈ engT,x ∉ 4 :: M):EngR w' base q e m p hash nIn nOut k cells:=by
 have q1:=hM 285 aU;have q2:=hM 307 aU;have q3:=hM 310 aU;have q4:=hM 363 aU;have q5:=hM 302 aU;have q6:=hM 336 aU;have q7:=hM 5 aU;have q8:=hM 3 aU;have q9:=hM 187 aU;have q10:=hM 144 aU;have q11:=hM 289 aU;exact⟨h.mach.step hd t q1 q8 q9 q10,h.inn.step hd t q2 q4 q8,h.out.step hd t q3 q4 q8,h.kp.step hd t q5 q6 q7 q8 q9 q10,h.ce.step hd t q8,hd.area h.al t.tch q11,hd.area h.as_ t.tch q11,hd.area h.aa t.tch q11,hd.area h.ab t.tch q11⟩
theorem EngR.below (h:EngR w base q e m p hash nIn nOut k cells)(hb:Below w.heap.size w w'):EngR w' base q e m p hash nIn nOut k cells :=
 ⟨h.mach.below hb,h.inn.below hb,h.out.below hb,h.kp.below hb,h.ce.below hb,Blk.below h.al hb (Blk.lt h.al),Blk.below h.as_ hb (Blk.lt h.as_),Blk.below h.aa hb (Blk.lt h.aa),Blk.below h.ab hb (Blk.lt h.ab)⟩
theorem engT_D:∀ x ∈ engT,x ∉ 4 :: mutD:=by decide
theorem engT_E:∀ x ∈ engT,x ∉ 4 :: [180]:=by decide
theorem EngR.stepD (h:EngR w base q e m p hash nIn nOut k cells)(hd:be w base q D)(t:Step mutD base q w w'):EngR w' base q e m p hash nIn nOut k cells:=h.step hd t engT_D
theorem cF.stepD (h:cF w base q g e m p hash pace E)(hd:be w base q D)(t:Step mutD base q w w'):cF w' base q g e m p hash pace E:=⟨hd.blk h.b t.tch aU,h.gb,h.r.stepD hd t⟩
theorem cF.below (h:cF w base q g e m p hash pace E)(hb:Below w.heap.size w w'):cF w' base q g e m p hash pace E:=⟨h.b.below hb h.b.lt,h.gb,h.r.below hb⟩
theorem cX.othk {t:TypeId}{ga:Nat}{kind':Int}(H:cX t w base g ga kind' next ts)(hd:be w base q D)(s:Step mutJ base q w w')(o:OthK kind w w')(hne:kind'≠kind)(h1:t ∉ 4 :: mutJ):cX t w' base g ga kind' next ts:=by
 obtain⟨gj,A,n,c,hb,hg,hj,hi⟩:=H;exact⟨gj,A,n,c,hd.blk hb s.tch h1,hg,o _ _ _ _ hne hj,hi.step hd s aU⟩
theorem EngR.stepS (h:EngR w base q e m p hash nIn nOut k cells)(hd:be w base q D)(t:Step mutJ base q w w')(o:OthK 4 w w')(hj:cX 310 w' base e.go e.gs 4 nOut' p.outs):EngR w' base q e m p hash nIn nOut' k cells :=
 ⟨h.mach.step hd t aU aU aU aU,h.inn.othk hd t o aU aU,hj,h.kp.step hd t aU aU aU aU aU aU,h.ce.step hd t aU,hd.area h.al t.tch aU,hd.area h.as_ t.tch aU,hd.area h.aa t.tch aU,hd.area h.ab t.tch aU⟩
theorem EngR.stepF (h:EngR w base q e m p hash nIn nOut k cells)(hd:be w base q D)(t:Step mutJ base q w w')(o:OthK 3 w w')(hj:cX 307 w' base e.gi e.gl 3 nIn' p.ins):EngR w' base q e m p hash nIn' nOut k cells :=
 ⟨h.mach.step hd t aU aU aU aU,hj,h.out.othk hd t o aU aU,h.kp.step hd t aU aU aU aU aU aU,h.ce.step hd t aU,hd.area h.al t.tch aU,hd.area h.as_ t.tch aU,hd.area h.aa t.tch aU,hd.area h.ab t.tch aU⟩
theorem EngR.stepK (h:EngR w base q e m p hash nIn nOut k cells)(hd:be w base q D)(t:Step mutK base q w w')(hk:kX w' base e.gk e.ga e.gb e.x p hash k'):EngR w' base q e m p hash nIn nOut k' cells :=
 ⟨h.mach.step hd t aU aU aU aU,h.inn.step hd t aU aU aU,h.out.step hd t aU aU aU,hk,h.ce.step hd t aU,hd.area h.al t.tch aU,hd.area h.as_ t.tch aU,hd.area h.aa t.tch aU,hd.area h.ab t.tch aU⟩
theorem Step.engSet (hb:Blk w g 180 cs)(hg:base<=g)(hs:base<=w.heap.size)(i:Nat)(u:Value):Step [180] base q w (w.setCell ⟨g,i,none⟩ u):=Step.one (dw _) hb (aC ..) hg hs
theorem be.engSet (h:be w base q D)(hb:Blk w g 180 cs)(i:Nat)(u:Value):be (w.setCell ⟨g,i,none⟩ u) base q D:=by
 obtain⟨A9,c9,h9⟩:=h;exact⟨A9,c9,h9.keep (F:=(·=g)) (Keep.one (dw _)) (fun g9 hf e=>by
  subst e;rcases h9.foot_ty hb hf with q | q | q | q | q <;> exact absurd q aU)⟩
theorem EngR.engSet (h:EngR w base q e m p hash nIn nOut k cells)(hd:be w base q D)(hb:Blk w g 180 cs)(hg:base<=g)(hs:base<=w.heap.size)(i:Nat)(u:Value):EngR (w.setCell ⟨g,i,none⟩ u) base q e m p hash nIn nOut k cells:=h.step hd (Step.engSet hb hg hs i u) engT_E
theorem Step.dToE (h:Step mutD base q w w'):Step mutE base q w w':=h.mono aU
theorem Step.jToE (h:Step mutJ base q w w'):Step mutE base q w w':=h.mono aU
theorem Step.kToE (h:Step mutK base q w w'):Step mutE base q w w':=h.mono aU
theorem Step.eToE (h:Step [180] base q w w'):Step mutE base q w w':=h.mono aU
structure EngS (w0 w:World)(base:Nat)(q:bE)(g:Nat)(e:EP)(m:Nat)(p:PV)(hash pace:Int)(D:aX)(E:EgV):Prop where
 d:be w base q D
 i:cF w base q g e m p hash pace E
 s:Step mutE base q w0 w
theorem cF.words (h:cF w base q g e m p hash pace E):w.cell? ⟨g,0,none⟩=some (.pointer (some ⟨e.gm,0,none⟩))/\w.cell? ⟨g,1,none⟩=some (.pointer (some ⟨e.gi,0,none⟩))/\w.cell? ⟨g,2,none⟩=some (.pointer (some ⟨e.go,0,none⟩))/\w.cell? ⟨g,3,none⟩=some (.pointer (some ⟨e.gk,0,none⟩))/\w.cell? ⟨g,4,none⟩=some (.slice e.A e.n e.c)/\w.cell? ⟨g,5,none⟩=some (I pace)/\w.cell? ⟨g,6,none⟩=some (I E.tick)/\w.cell? ⟨g,7,none⟩=some (I E.passed)/\w.cell? ⟨g,8,none⟩=some (I E.replayed)/\w.cell? ⟨g,9,none⟩=some (.bool E.put)/\w.cell? ⟨g,10,none⟩=some (.bool E.off) :=
 ⟨h.b.cell 0,h.b.cell 1,h.b.cell 2,h.b.cell 3,h.b.cell 4,h.b.cell 5,h.b.cell 6,h.b.cell 7,h.b.cell 8,h.b.cell 9,h.b.cell 10⟩
theorem EngR.cellsTo (h:EngR w base q e m p hash nIn nOut k cells){A:Option Addr}{n c:Nat}(hc:cK w base A n cells'):EngR w base q { e with A:=A,n:=n,c:=c } m p hash nIn nOut k cells' :=
 ⟨h.mach,h.inn,h.out,h.kp,hc,h.al,h.as_,h.aa,h.ab⟩
end
structure EngX (w0 w:World)(base:Nat)(q:bE)(g:Nat)(cs:List Value)(e:EP)(m:Nat)(p:PV)(hash:Int)(D:aX)(nIn nOut:Nat)(k:KpV)(cells:List Int):Prop where
 d:be w base q D
 b:Blk w g 180 cs
 gb:base<=g
 r:EngR w base q e m p hash nIn nOut k cells
 s:Step mutE base q w0 w
 hs:base<=w.heap.size
section
variable {w0 w w':World} {base g m nIn nOut:Nat} {q:bE} {D D':aX} {cs:List Value} {e:EP} {p:PV} {hash pace:Int} {k:KpV} {cells:List Int} {E:EgV}
theorem EngX.of (h:cF w base q g e m p hash pace E)(hd:be w base q D)(s:Step mutE base q w0 w)(hs:base<=w.heap.size):EngX w0 w base q g (engC e pace E) e m p hash D E.nIn E.nOut E.k E.cells:=⟨hd,h.b,h.gb,h.r,s,hs⟩
theorem EngX.set (h:EngX w0 w base q g cs e m p hash D nIn nOut k cells)(i:Nat)(u:Value):EngX w0 (w.setCell ⟨g,i,none⟩ u) base q g (cs.set i u) e m p hash D nIn nOut k cells :=
 ⟨h.d.engSet h.b i u,h.b.set_ i u,h.gb,h.r.engSet h.d h.b h.gb h.hs i u,h.s.trans (Step.engSet h.b h.gb h.hs i u).eToE,by simpa using h.hs⟩
theorem EngX.cellsTo (h:EngX w0 w base q g cs e m p hash D nIn nOut k cells){A:Option Addr}{n c:Nat}(hc:cK w base A n cells'):EngX w0 w base q g cs { e with A:=A,n:=n,c:=c } m p hash D nIn nOut k cells':=⟨h.d,h.b,h.gb,h.r.cellsTo hc,h.s,h.hs⟩
theorem EngX.stepD (h:EngX w0 w base q g cs e m p hash D nIn nOut k cells)(hd:be w' base q D')(t:Step mutD base q w w'):EngX w0 w' base q g cs e m p hash D' nIn nOut k cells :=
 ⟨hd,h.d.blk h.b t.tch aU,h.gb,h.r.stepD h.d t,h.s.trans t.dToE,ae h.hs t.size⟩
theorem EngX.below (h:EngX w0 w base q g cs e m p hash D nIn nOut k cells)(hb:Below w.heap.size w w'):EngX w0 w' base q g cs e m p hash D nIn nOut k cells :=
 ⟨h.d.below hb,h.b.below hb h.b.lt,h.gb,h.r.below hb,h.s.trans (Step.of_below hb h.hs),ae h.hs hb.size⟩
theorem EngX.stepS (h:EngX w0 w base q g cs e m p hash D nIn nOut k cells)(hd:be w' base q D')(t:Step mutJ base q w w')(o:OthK 4 w w')(hj:cX 310 w' base e.go e.gs 4 nOut' p.outs):EngX w0 w' base q g cs e m p hash D' nIn nOut' k cells :=
 ⟨hd,h.d.blk h.b t.tch aU,h.gb,h.r.stepS h.d t o hj,h.s.trans t.jToE,ae h.hs t.size⟩
theorem EngX.stepF (h:EngX w0 w base q g cs e m p hash D nIn nOut k cells)(hd:be w' base q D')(t:Step mutJ base q w w')(o:OthK 3 w w')(hj:cX 307 w' base e.gi e.gl 3 nIn' p.ins):EngX w0 w' base q g cs e m p hash D' nIn' nOut k cells :=
 ⟨hd,h.d.blk h.b t.tch aU,h.gb,h.r.stepF h.d t o hj,h.s.trans t.jToE,ae h.hs t.size⟩
theorem EngX.stepK (h:EngX w0 w base q g cs e m p hash D nIn nOut k cells)(hd:be w' base q D')(t:Step mutK base q w w')(hk:kX w' base e.gk e.ga e.gb e.x p hash k'):EngX w0 w' base q g cs e m p hash D' nIn nOut k' cells :=
 ⟨hd,h.d.blk h.b t.tch aU,h.gb,h.r.stepK h.d t hk,h.s.trans t.kToE,ae h.hs t.size⟩
theorem EngX.done (h:EngX w0 w base q g cs e m p hash D E.nIn E.nOut E.k E.cells)(hc:cs=engC e pace E):EngS w0 w base q g e m p hash pace D E:=⟨h.d,⟨by rw[<- hc];exact h.b,h.gb,h.r⟩,h.s⟩
end
theorem fGetV_row {D:aX}{f:Nat}{n:Int}(h:(dm D f m kind next ts n).2.2=0):cx ts (dm D f m kind next ts n).2.1=true/\eN (dm D f m kind next ts n).2.1:=by
 unfold dm at h ⊢
 by_cases h1:(eX D f m kind next n).2.2≠0
 · rw[if_pos h1] at h;exact absurd h h1
 · rw[if_neg h1] at h ⊢
   by_cases h2:(eK ts (eX D f m kind next n).2.1).2≠0
   · rw[if_pos h2] at h;simp at h
   · rw[if_neg h2];obtain⟨a,_,b⟩:=readR_back (ts:=ts) (b:=(eX D f m kind next n).2.1) aS;exact⟨a,b⟩
theorem intok_in {l:List Int}(h:eN l):∀ z ∈ l,In64 z:=fun z hz=>by
 obtain⟨i,hi,rfl⟩:=List.getElem_of_mem hz;have:=h i hi;unfold bj at this
 rwa [ah,ap hi] at this
theorem in_intok {l:List Int}(h:∀ z ∈ l,In64 z):eN l:=fun i hi=>by
 have:=h _ (List.getElem_mem hi);unfold bj;rw[ah,ap hi];exact this
section
variable {w w':World} {base g m:Nat} {q:bE} {D:aX} {e:EP} {p:PV} {hash pace:Int} {E:EgV}
theorem one_any (h:cF w base q g e m p hash pace E)(ok:EgOk m p E)(G:PrgW p m)(hd:be w base q D)(hs:base<=w.heap.size)(big:11+2 * m<=D.many)(ht:E.tick<(E.nIn:Int))(hwt:D.waits.length<800000) :
 Ca 126 #[.pointer (some ⟨g,0,none⟩)] w fun e' w'=>∃ A n c,e'=.returned (I (bL m p D E).2.2)/\EngS w w' base q g { e with A:=A,n:=n,c:=c } m p hash pace (bL m p D E).1 (bL m p D E).2.1:=by
 have hm2:=G.m2;have hni:=ok.i0;have hno:=ok.o0;have t0:=ok.t0;have p0:=ok.p0;have p1:=ok.p1;have hb1:Below w.heap.size w w.drew:=Below.drew (Below.refl _ _);have X1:=(EngX.of h hd (Step.refl mutE base q w) hs).below hb1;obtain⟨c0,c1,c2,c3,c4,c5,c6,c7,c8,c9,c10⟩:=h.words;have hget:=oA X1.r.inn X1.d X1.hs X1.r.al aS aS E.tick;have hrow:=fGetV_row (D:=D) (f:=11) (m:=m) (next:=E.nIn) (kind:=3) (ts:=p.ins) (n:=E.tick);have hmany:=fGetV_many D 11 m 3 E.nIn p.ins E.tick;have hkeep:=mu D 11 m 3 E.nIn p.ins E.tick;have hone:bL m p D E=iJ m p E (dm D 11 m 3 E.nIn p.ins E.tick):=rfl;rw[hone];clear hone hb1 h hd;have HX1:=aT X1;clear X1;generalize dm D 11 m 3 E.nIn p.ins E.tick=R at *;obtain⟨D1,l,z1⟩:=R;simp only at hget hrow hmany hkeep;have hw1:D1.waits.length<800000:=by obtain⟨o,e⟩:=hkeep;rw[e];exact hwt
 clear hkeep
 by_cases hz1:z1=0
 rotate_left 1
 · have hzb:(z1 != 0)=true:=by rw[ag];exact hz1
   have hun:iJ m p E (D1,l,z1)=(D1,E,z1):=by unfold iJ;rw[if_pos hz1]
   rw[hun];clear hun hz1 hrow;go_enter Tryz.func126,Tryz.ntmps126;go_upto_region 1 with fail;go_region_held3 (fun w'=>w'.cell? ⟨g,1,none⟩=some (.pointer (some ⟨e.gi,0,none⟩))/\w'.cell? ⟨g,6,none⟩=some (I E.tick)) (first | go_keep | (refine⟨?_,?_⟩ <;> assumption)) (first | ((go_at_call 210;go_call (hget) as e' w2 ⟨B,k,d,rfl,o2,d2,s2⟩);have X2:=aT (HX1.out.stepD d2 s2);obtain⟨c0,c1,c2,c3,c4,c5,c6,c7,c8,c9,c10⟩:=(show cF w2 base q g e m p hash pace E from ⟨X2.out.b,X2.out.gb,X2.out.r⟩).words) | fail);go_wp2_with fail;go_ret;exact⟨e.A,e.n,e.c,rfl,X2.out.done rfl⟩
 subst hz1;obtain⟨f1,f2⟩:=hrow rfl;have l64:=intok_in f2;have hfits:(ia p E.cells && cx p.ins l)=true:=by rw[ok.cf,f1];rfl
 obtain⟨_,_,_,g4,g5⟩:=mC G.hv G.hw ok.cf f1 ok.c64 l64;have hT:eQ p E.cells l=((goV p E.cells l 0 (eP p E.cells)).next,(goV p E.cells l 0 (eP p E.cells)).out,(goV p E.cells l 0 (eP p E.cells)).steps,0):=by unfold eQ;rw[if_pos hfits]
 have hun:iJ m p E (D1,l,0)=gQ E (eQ p E.cells l) (ff D1 (11+m) m 4 E.nOut p.outs E.tick (eQ p E.cells l).2.1):=by
  unfold iJ;rw[if_neg aZ];unfold eOneB;simp only;rw[hT,if_neg aZ]
 rw[hun];have i5:=in_intok g5;have htk:=fun (W:World) (B:Option Addr) (k d:Nat) (h1:fX W base e.gm e.y p) (h2:cK W base e.A e.n E.cells) (h3:RI W B k l) (hk:k<=maxLen)=>mtick_yes h1 G.hv G.hw e.A e.n e.c E.cells h2.ri (by have:=h2.ri.1;have:=(iV.1 ok.cf).1;have:=G.c60;omega) B k d l h3 hk ok.c64 l64 ok.cf f1
 rw[hT] at i5 ⊢;simp only at i5 ⊢;clear hT hun g4 g5 hfits hrow f1 f2 l64;generalize (goV p E.cells l 0 (eP p E.cells)).next=nx at *;generalize (goV p E.cells l 0 (eP p E.cells)).out=ou at *;generalize (goV p E.cells l 0 (eP p E.cells)).steps=sp at *;have hput:=fun (W:World) (B:Option Addr) (k d:Nat) (X:EngX w W base q g (engC e pace E) e m p hash D1 E.nIn E.nOut E.k E.cells) (hl:RI W B k ou) (hk:k<=maxLen)=>skputO_any X.r.out X.d X.hs X.r.as_ aS aS hno aS G.outs E.tick B k d hl hk i5
 generalize ff D1 (11+m) m 4 E.nOut p.outs E.tick ou=S at *;obtain⟨D3,no3,fr,z3⟩:=S;simp only at hput;clear i5 hwt hw1 ok G
 by_cases hz3:z3=0
 rotate_left 1
 · have hzb:(z3 != 0)=true:=by rw[ag];exact hz3
   have hun:gQ E (nx,ou,sp,0) (D3,no3,fr,z3)=(D3,{ E with nOut:=no3 },z3):=by unfold gQ;rw[if_pos hz3]
   rw[hun];clear hun hz3;go_enter Tryz.func126,Tryz.ntmps126;go_upto_region 1 with fail;go_region_held3 (fun w'=>w'.cell? ⟨g,1,none⟩=some (.pointer (some ⟨e.gi,0,none⟩))/\w'.cell? ⟨g,6,none⟩=some (I E.tick)) (first | go_keep | (refine⟨?_,?_⟩ <;> assumption)) (first | ((go_at_call 210;go_call (hget) as e' w2 ⟨B2,k2,d2',rfl,o2,d2,s2⟩);have X2:=aT (HX1.out.stepD d2 s2);obtain⟨c0,c1,c2,c3,c4,c5,c6,c7,c8,c9,c10⟩:=(show cF w2 base q g e m p hash pace E from ⟨X2.out.b,X2.out.gb,X2.out.r⟩).words) | fail);have X2d:=aT (X2.out.below (Below.drew (Below.refl _ _)));have I2d:=aT (o2.below (Below.drew (Below.refl _ _)) aW);have htk2:=htk w2.drew B2 k2 d2' X2d.out.r.mach X2d.out.r.ce I2d.out.rd.ri (ae I2d.out.cap.1 I2d.out.cap.2);go_upto_region 4 with fail;go_region_held3 (fun w'=>w'.cell? ⟨g,0,none⟩=some (.pointer (some ⟨e.gm,0,none⟩))/\w'.cell? ⟨g,4,none⟩=some (.slice e.A e.n e.c)) (first | go_keep | (refine⟨?_,?_⟩ <;> assumption)) (first | ((go_at_call 170;go_call (htk2) as e' w3 ⟨An,cn,Ao,co,rfl,on,oo,b3⟩);have X3:=aT (X2d.out.below b3);obtain⟨c0,c1,c2,c3,c4,c5,c6,c7,c8,c9,c10⟩:=(show cF w3 base q g e m p hash pace E from ⟨X3.out.b,X3.out.gb,X3.out.r⟩).words) | fail);have X3d:=aT (X3.out.below (Below.drew (Below.refl _ _)));have ON:=aT (on.below (Below.drew (Below.refl _ _)) aW);have OO:=aT (oo.below (Below.drew (Below.refl _ _)) aW);have hput3:=hput w3.drew Ao e.y.n2 co X3d.out OO.out.rd.ri (ae OO.out.cap.1 OO.out.cap.2);go_upto_region 7 with fail;go_region_held3 (fun w'=>w'.cell? ⟨g,2,none⟩=some (.pointer (some ⟨e.go,0,none⟩))/\w'.cell? ⟨g,6,none⟩=some (I E.tick)) (first | go_keep | (refine⟨?_,?_⟩ <;> assumption)) (first | ((go_at_call 211;go_call (hput3) as e' w4 ⟨rfl,d4,j4,s4,q4⟩);have X4:=aT (X3d.out.stepS d4 s4 q4 j4);obtain⟨c0,c1,c2,c3,c4,c5,c6,c7,c8,c9,c10⟩:=(show cF w4 base q g e m p hash pace { E with nOut:=no3 } from ⟨X4.out.b,X4.out.gb,X4.out.r⟩).words;have C4:=aT ((cK.of_ow (base:=base) ON.out).step X3d.out.d s4 aU)) | fail);go_wp2_with fail;go_ret;exact⟨e.A,e.n,e.c,rfl,X4.out.done rfl⟩
 subst hz3;have hun:gQ E (nx,ou,sp,0) (D3,no3,fr,0)=(D3,{ E with nOut:=no3,put:=E.put || fr,tick:=E.tick+1,cells:=nx,passed:=E.passed+1 },0):=by unfold gQ;rw[if_neg aZ]
 rw[hun];clear hun
 cases hpu:E.put with
 | false=>
   rw[hpu] at c9;go_enter Tryz.func126,Tryz.ntmps126;go_upto_region 1 with fail;go_region_held3 (fun w'=>w'.cell? ⟨g,1,none⟩=some (.pointer (some ⟨e.gi,0,none⟩))/\w'.cell? ⟨g,6,none⟩=some (I E.tick)) (first | go_keep | (refine⟨?_,?_⟩ <;> assumption)) (first | ((go_at_call 210;go_call (hget) as e' w2 ⟨B2,k2,d2',rfl,o2,d2,s2⟩);have X2:=aT (HX1.out.stepD d2 s2);obtain⟨c0,c1,c2,c3,c4,c5,c6,c7,c8,c9,c10⟩:=(show cF w2 base q g e m p hash pace E from ⟨X2.out.b,X2.out.gb,X2.out.r⟩).words) | fail);have X2d:=aT (X2.out.below (Below.drew (Below.refl _ _)));have I2d:=aT (o2.below (Below.drew (Below.refl _ _)) aW);have htk2:=htk w2.drew B2 k2 d2' X2d.out.r.mach X2d.out.r.ce I2d.out.rd.ri (ae I2d.out.cap.1 I2d.out.cap.2);go_upto_region 4 with fail;go_region_held3 (fun w'=>w'.cell? ⟨g,0,none⟩=some (.pointer (some ⟨e.gm,0,none⟩))/\w'.cell? ⟨g,4,none⟩=some (.slice e.A e.n e.c)) (first | go_keep | (refine⟨?_,?_⟩ <;> assumption)) (first | ((go_at_call 170;go_call (htk2) as e' w3 ⟨An,cn,Ao,co,rfl,on,oo,b3⟩);have X3:=aT (X2d.out.below b3);obtain⟨c0,c1,c2,c3,c4,c5,c6,c7,c8,c9,c10⟩:=(show cF w3 base q g e m p hash pace E from ⟨X3.out.b,X3.out.gb,X3.out.r⟩).words) | fail);have X3d:=aT (X3.out.below (Below.drew (Below.refl _ _)));have ON:=aT (on.below (Below.drew (Below.refl _ _)) aW);have OO:=aT (oo.below (Below.drew (Below.refl _ _)) aW);have hput3:=hput w3.drew Ao e.y.n2 co X3d.out OO.out.rd.ri (ae OO.out.cap.1 OO.out.cap.2);go_upto_region 7 with fail;go_region_held3 (fun w'=>w'.cell? ⟨g,2,none⟩=some (.pointer (some ⟨e.go,0,none⟩))/\w'.cell? ⟨g,6,none⟩=some (I E.tick)) (first | go_keep | (refine⟨?_,?_⟩ <;> assumption)) (first | ((go_at_call 211;go_call (hput3) as e' w4 ⟨rfl,d4,j4,s4,q4⟩);have X4:=aT (X3d.out.stepS d4 s4 q4 j4);obtain⟨c0,c1,c2,c3,c4,c5,c6,c7,c8,c9,c10⟩:=(show cF w4 base q g e m p hash pace { E with nOut:=no3 } from ⟨X4.out.b,X4.out.gb,X4.out.r⟩).words;have C4:=aT ((cK.of_ow (base:=base) ON.out).step X3d.out.d s4 aU)) | fail);rw[hpu] at c9;have f4:=X4.out.b.frozen 4;have f6:=X4.out.b.frozen 6;have f7:=X4.out.b.frozen 7;have f8:=X4.out.b.frozen 8;have f9:=X4.out.b.frozen 9;have f10:=X4.out.b.frozen 10;have gl:=X4.out.b.lt;go_wp2_with fail;go_ret;exact⟨An,e.n,cn,rfl,(((((X4.out.cellsTo C4.out).set 9 (.bool fr)).set 6 (I (E.tick+1))).set 4 (.slice An e.n cn)).set 7 (I (E.passed+1))).done rfl⟩
 | true=>
   rw[hpu] at c9;go_enter Tryz.func126,Tryz.ntmps126;go_upto_region 1 with fail;go_region_held3 (fun w'=>w'.cell? ⟨g,1,none⟩=some (.pointer (some ⟨e.gi,0,none⟩))/\w'.cell? ⟨g,6,none⟩=some (I E.tick)) (first | go_keep | (refine⟨?_,?_⟩ <;> assumption)) (first | ((go_at_call 210;go_call (hget) as e' w2 ⟨B2,k2,d2',rfl,o2,d2,s2⟩);have X2:=aT (HX1.out.stepD d2 s2);obtain⟨c0,c1,c2,c3,c4,c5,c6,c7,c8,c9,c10⟩:=(show cF w2 base q g e m p hash pace E from ⟨X2.out.b,X2.out.gb,X2.out.r⟩).words) | fail);have X2d:=aT (X2.out.below (Below.drew (Below.refl _ _)));have I2d:=aT (o2.below (Below.drew (Below.refl _ _)) aW);have htk2:=htk w2.drew B2 k2 d2' X2d.out.r.mach X2d.out.r.ce I2d.out.rd.ri (ae I2d.out.cap.1 I2d.out.cap.2);go_upto_region 4 with fail;go_region_held3 (fun w'=>w'.cell? ⟨g,0,none⟩=some (.pointer (some ⟨e.gm,0,none⟩))/\w'.cell? ⟨g,4,none⟩=some (.slice e.A e.n e.c)) (first | go_keep | (refine⟨?_,?_⟩ <;> assumption)) (first | ((go_at_call 170;go_call (htk2) as e' w3 ⟨An,cn,Ao,co,rfl,on,oo,b3⟩);have X3:=aT (X2d.out.below b3);obtain⟨c0,c1,c2,c3,c4,c5,c6,c7,c8,c9,c10⟩:=(show cF w3 base q g e m p hash pace E from ⟨X3.out.b,X3.out.gb,X3.out.r⟩).words) | fail);have X3d:=aT (X3.out.below (Below.drew (Below.refl _ _)));have ON:=aT (on.below (Below.drew (Below.refl _ _)) aW);have OO:=aT (oo.below (Below.drew (Below.refl _ _)) aW);have hput3:=hput w3.drew Ao e.y.n2 co X3d.out OO.out.rd.ri (ae OO.out.cap.1 OO.out.cap.2);go_upto_region 7 with fail;go_region_held3 (fun w'=>w'.cell? ⟨g,2,none⟩=some (.pointer (some ⟨e.go,0,none⟩))/\w'.cell? ⟨g,6,none⟩=some (I E.tick)) (first | go_keep | (refine⟨?_,?_⟩ <;> assumption)) (first | ((go_at_call 211;go_call (hput3) as e' w4 ⟨rfl,d4,j4,s4,q4⟩);have X4:=aT (X3d.out.stepS d4 s4 q4 j4);obtain⟨c0,c1,c2,c3,c4,c5,c6,c7,c8,c9,c10⟩:=(show cF w4 base q g e m p hash pace { E with nOut:=no3 } from ⟨X4.out.b,X4.out.gb,X4.out.r⟩).words;have C4:=aT ((cK.of_ow (base:=base) ON.out).step X3d.out.d s4 aU)) | fail);rw[hpu] at c9;have f4:=X4.out.b.frozen 4;have f6:=X4.out.b.frozen 6;have f7:=X4.out.b.frozen 7;have f8:=X4.out.b.frozen 8;have f9:=X4.out.b.frozen 9;have f10:=X4.out.b.frozen 10;have gl:=X4.out.b.lt;go_wp2_with fail;go_ret;exact⟨An,e.n,cn,rfl,(((((X4.out.cellsTo C4.out).set 9 (.bool true)).set 6 (I (E.tick+1))).set 4 (.slice An e.n cn)).set 7 (I (E.passed+1))).done rfl⟩
theorem oE (D:aX):(bH D).1.waits.length<=D.waits.length:=by
 unfold bH
 split
 · exact Nat.le_refl _
 · split
   · exact Nat.le_refl _
   · exact Nat.zero_le _
theorem oF (D:aX):(bH D).1.many=D.many:=by
 unfold bH
 split
 · rfl
 · split <;> rfl
theorem ku (h:cF w base q g e m p hash pace E)(hd:be w base q D)(hs:base<=w.heap.size) :
 Ca 127 #[.pointer (some ⟨g,0,none⟩)] w fun e' w'=>e'=.returned (I (cU D E).2.2)/\EngS w w' base q g e m p hash pace (cU D E).1 (cU D E).2.1:=by
 have X1:=EngX.of h hd (Step.refl mutE base q w) hs;obtain⟨c0,c1,c2,c3,c4,c5,c6,c7,c8,c9,c10⟩:=h.words;have hfl:=pW X1.r.out X1.d X1.hs X1.r.as_;have HX1:=aT X1;clear X1 h hd
 cases hpu:E.put with
 | false=>
   rw[hpu] at c9;have hun:cU D E=(D,E,0):=by unfold cU;rw[if_pos hpu]
   rw[hun];clear hun hpu;go_enter Tryz.func127,Tryz.ntmps127;go_wp2_with fail;go_ret;exact⟨rfl,HX1.out.done rfl⟩
 | true=>
   rw[hpu] at c9;have hun:cU D E=lL E (bH D):=by unfold cU;rw[if_neg (by rw[hpu];simp)]
   rw[hun];clear hun;generalize bH D=F at *;obtain⟨D1,z⟩:=F;simp only at hfl;unfold lL;simp only
   by_cases hz:z=0
   · subst hz;rw[show decide ((0:Int)≠0)=false from rfl];go_enter Tryz.func127,Tryz.ntmps127;go_upto_region 4 with (first | ((go_at_call 208;go_call (hfl) as e' w4 ⟨rfl,d4,s4⟩);have X4:=aT (HX1.out.stepD d4 s4);obtain⟨c0,c1,c2,c3,c4,c5,c6,c7,c8,c9,c10⟩:=(show cF w4 base q g e m p hash pace E from ⟨X4.out.b,X4.out.gb,X4.out.r⟩).words) | fail);rw[hpu] at c9;have f4:=X4.out.b.frozen 4;have f6:=X4.out.b.frozen 6;have f7:=X4.out.b.frozen 7;have f8:=X4.out.b.frozen 8;have f9:=X4.out.b.frozen 9;have f10:=X4.out.b.frozen 10;have gl:=X4.out.b.lt;go_wp2_with fail;go_ret;exact⟨rfl,EngX.done (E:={ E with put:=false }) (X4.out.set 9 (.bool false)) rfl⟩
   · have hzb:(z != 0)=true:=by rw[ag];exact hz
     have hzd:decide (z≠0)=true:=am hz;rw[hzd];clear hz hzd;go_enter Tryz.func127,Tryz.ntmps127;go_upto_region 4 with (first | ((go_at_call 208;go_call (hfl) as e' w4 ⟨rfl,d4,s4⟩);have X4:=aT (HX1.out.stepD d4 s4);obtain⟨c0,c1,c2,c3,c4,c5,c6,c7,c8,c9,c10⟩:=(show cF w4 base q g e m p hash pace E from ⟨X4.out.b,X4.out.gb,X4.out.r⟩).words) | fail);rw[hpu] at c9;have f4:=X4.out.b.frozen 4;have f6:=X4.out.b.frozen 6;have f7:=X4.out.b.frozen 7;have f8:=X4.out.b.frozen 8;have f9:=X4.out.b.frozen 9;have f10:=X4.out.b.frozen 10;have gl:=X4.out.b.lt;go_wp2_with fail;go_ret;exact⟨rfl,EngX.done (E:={ E with put:=true }) (X4.out.set 9 (.bool true)) rfl⟩
theorem oG (h:cF w base q g e m p hash pace E)(ok:EgOk m p E)(G:PrgW p m)(hd:be w base q D)(hs:base<=w.heap.size)(big:11+2 * m<=D.many)(hwt:D.waits.length<800000) :
 Ca 125 #[.pointer (some ⟨g,0,none⟩)] w fun e' w'=>e'=.returned (I (dr p hash D E).2.2)/\EngS w w' base q g e m p hash pace (dr p hash D E).1 (dr p hash D E).2.1:=by
 have X1:=EngX.of h hd (Step.refl mutE base q w) hs;obtain⟨c0,c1,c2,c3,c4,c5,c6,c7,c8,c9,c10⟩:=h.words;have hfl:=pW X1.r.out X1.d X1.hs X1.r.as_;have hwf:=oE D;have hmf:=oF D;have HX1:=aT X1;have hen:e.n<=1000:=by have:=X1.r.ce.ri.1;have:=(iV.1 ok.cf).1;have:=G.c60;omega
 have kn:=ok.kn;have hmay:=G.may;have hun:dr p hash D E=iX p hash E (bH D):=rfl;rw[hun];clear X1 h hd hun ok G;generalize bH D=F at *;obtain⟨D1,z⟩:=F;simp only at hfl hwf hmf
 by_cases hz:z=0
 rotate_left 1
 · have hzb:(z != 0)=true:=by rw[ag];exact hz
   have hun:iX p hash E (D1,z)=(D1,E,z):=by unfold iX;rw[if_pos hz]
   rw[hun];clear hun hz;go_enter Tryz.func125,Tryz.ntmps125;go_wp2_with (first | ((go_at_call 208;go_call (hfl) as e' w4 ⟨rfl,d4,s4⟩);have X4:=aT (HX1.out.stepD d4 s4)) | fail);go_ret;exact⟨rfl,X4.out.done rfl⟩
 subst hz;have hun:iX p hash E (D1,0)=iW { E with put:=false } (eM D1 1 5 6 5 p hash E.k E.tick E.cells):=by unfold iX;rw[if_neg aZ]
 rw[hun];clear hun;have hksv:=fun (W:World) (cs:List Value) (X:EngX w W base q g cs e m p hash D1 E.nIn E.nOut E.k E.cells)=>ksave_any (tick:=E.tick) (c:=e.c) (fun _ _ h=>h) X.r.kp hmay X.d X.hs X.r.aa X.r.ab aS aS aS aS X.r.ce hen kn aS
 generalize eM D1 1 5 6 5 p hash E.k E.tick E.cells=K at *;obtain⟨D2,k2,z2⟩:=K;simp only at hksv
 by_cases hz2:z2=0
 · subst hz2;have hun:iW { E with put:=false } (D2,k2,0)=(D2,{ E with put:=false,k:=k2,passed:=0 },0):=by unfold iW;rw[if_neg aZ]
   rw[hun];clear hun;go_enter Tryz.func125,Tryz.ntmps125;go_upto_region 4 with (first | ((go_at_call 208;go_call (hfl) as e' w4 ⟨rfl,d4,s4⟩);have X4:=aT (HX1.out.stepD d4 s4);obtain⟨c0,c1,c2,c3,c4,c5,c6,c7,c8,c9,c10⟩:=(show cF w4 base q g e m p hash pace E from ⟨X4.out.b,X4.out.gb,X4.out.r⟩).words) | fail);have f4:=X4.out.b.frozen 4;have f6:=X4.out.b.frozen 6;have f7:=X4.out.b.frozen 7;have f8:=X4.out.b.frozen 8;have f9:=X4.out.b.frozen 9;have f10:=X4.out.b.frozen 10;have gl:=X4.out.b.lt;have X5:=aT ((X4.out.set 9 (.bool false)).below (Below.drew (Below.refl _ _)));have hk5:=hksv _ _ X5.out;obtain⟨v0,v1,v2,v3,v4,v5,v6,v7,v8,v9,v10⟩:=(show cF (w4.setCell ⟨g,9,none⟩ (.bool false)).drew base q g e m p hash pace { E with put:=false } from ⟨X5.out.b,X5.out.gb,X5.out.r⟩).words;go_upto_region 5 with fail;go_region_held3 (fun w'=>w'.cell? ⟨g,3,none⟩=some (.pointer (some ⟨e.gk,0,none⟩))/\w'.cell? ⟨g,6,none⟩=some (I E.tick)/\w'.cell? ⟨g,4,none⟩=some (.slice e.A e.n e.c)) (first | go_keep | (refine⟨?_,?_,?_⟩ <;> assumption) | (refine⟨?_,?_,?_⟩ <;> go_simp)) (first | ((go_at_call 209;go_call (hk5) as e' w6 ⟨rfl,d6,j6,s6⟩);have X6:=aT (X5.out.stepK d6 s6 j6);obtain⟨c0,c1,c2,c3,c4,c5,c6,c7,c8,c9,c10⟩:=(show cF w6 base q g e m p hash pace { E with put:=false,k:=k2 } from ⟨X6.out.b,X6.out.gb,X6.out.r⟩).words) | fail);have f7:=X6.out.b.frozen 7;have gl:=X6.out.b.lt;go_wp2_with fail;go_ret;exact⟨rfl,EngX.done (E:={ E with put:=false,k:=k2,passed:=0 }) (X6.out.set 7 (I 0)) rfl⟩
 · have hzb:(z2 != 0)=true:=by rw[ag];exact hz2
   have hun:iW { E with put:=false } (D2,k2,z2)=(D2,{ E with put:=false,k:=k2 },z2):=by unfold iW;rw[if_pos hz2]
   rw[hun];clear hun hz2;go_enter Tryz.func125,Tryz.ntmps125;go_upto_region 4 with (first | ((go_at_call 208;go_call (hfl) as e' w4 ⟨rfl,d4,s4⟩);have X4:=aT (HX1.out.stepD d4 s4);obtain⟨c0,c1,c2,c3,c4,c5,c6,c7,c8,c9,c10⟩:=(show cF w4 base q g e m p hash pace E from ⟨X4.out.b,X4.out.gb,X4.out.r⟩).words) | fail);have f4:=X4.out.b.frozen 4;have f6:=X4.out.b.frozen 6;have f7:=X4.out.b.frozen 7;have f8:=X4.out.b.frozen 8;have f9:=X4.out.b.frozen 9;have f10:=X4.out.b.frozen 10;have gl:=X4.out.b.lt;have X5:=aT ((X4.out.set 9 (.bool false)).below (Below.drew (Below.refl _ _)));have hk5:=hksv _ _ X5.out;obtain⟨v0,v1,v2,v3,v4,v5,v6,v7,v8,v9,v10⟩:=(show cF (w4.setCell ⟨g,9,none⟩ (.bool false)).drew base q g e m p hash pace { E with put:=false } from ⟨X5.out.b,X5.out.gb,X5.out.r⟩).words;go_upto_region 5 with fail;go_region_held3 (fun w'=>w'.cell? ⟨g,3,none⟩=some (.pointer (some ⟨e.gk,0,none⟩))/\w'.cell? ⟨g,6,none⟩=some (I E.tick)/\w'.cell? ⟨g,4,none⟩=some (.slice e.A e.n e.c)) (first | go_keep | (refine⟨?_,?_,?_⟩ <;> assumption) | (refine⟨?_,?_,?_⟩ <;> go_simp)) (first | ((go_at_call 209;go_call (hk5) as e' w6 ⟨rfl,d6,j6,s6⟩);have X6:=aT (X5.out.stepK d6 s6 j6);obtain⟨c0,c1,c2,c3,c4,c5,c6,c7,c8,c9,c10⟩:=(show cF w6 base q g e m p hash pace { E with put:=false,k:=k2 } from ⟨X6.out.b,X6.out.gb,X6.out.r⟩).words) | fail);go_wp2_with fail;go_ret;exact⟨rfl,EngX.done (E:={ E with put:=false,k:=k2 }) X6.out rfl⟩
end
