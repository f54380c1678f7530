/- Parts. -/
import Derived.Test.YtmeebofhlilcmaaGreatPr49
set_option linter.unusedVariables false
set_option linter.unusedSimpArgs false
set_option maxRecDepth 100000
set_option maxHeartbeats 0
namespace Go.Proofs.YtmeebofhlilcmaaGreat
open Go.RowKit
structure RTk (w0 w:World)(gr nr:Nat)(An:Option Addr)(nn cn go no:Nat)(s:VS):Prop where
 bel:Below w0.heap.size w0 w
 r:Ow iv w w0.heap.size 3 (some ⟨gr,0,none⟩) nr nr s.regs
 n:Ow iv w w0.heap.size 3 An nn cn s.next
 o:Ow iv w w0.heap.size 3 (some ⟨go,0,none⟩) no no s.out
 rn:∀ b,An.map (·.block)=some b->gr≠b
 ro:gr≠go
 no_:∀ b,An.map (·.block)=some b->go≠b
section
variable {w0 w w':World} {gr nr nn cn go no:Nat} {An:Option Addr} {s:VS}
theorem RTk.below (h:RTk w0 w gr nr An nn cn go no s)(hb:Below w.heap.size w w'):RTk w0 w' gr nr An nn cn go no s :=
 ⟨h.bel.trans (hb.mono h.bel.size),h.r.below hb aV,h.n.below hb aV,h.o.below hb aV,h.rn,h.ro,h.no_⟩
theorem RTk.drew (h:RTk w0 w gr nr An nn cn go no s):RTk w0 w.drew gr nr An nn cn go no s:=h.below (Below.drew (Below.refl _ _))
theorem RTk.setR (h:RTk w0 w gr nr An nn cn go no s)(j:Nat)(v:Int)(u:Value)(hu:u=I v)(s':VS)(h1:s'.regs=putK s.regs (j:Nat) v)(h2:s'.next=s.next)(h3:s'.out=s.out):RTk w0 (w.setCell ⟨gr,j,none⟩ u) gr nr An nn cn go no s':=by
 subst hu;have k:Keep (·=gr) w (w.setCell ⟨gr,j,none⟩ (I v)):=Keep.one (ec _);have hg:=h.r.lt gr rfl;refine⟨h.bel.trans (k.below (fun b e=>by rw[e];exact hg.1) h.bel.size),?_,by rw[h2];exact h.n.kp k (fun b e q=>h.rn b e q.symm),by rw[h3];exact h.o.kp k (fun b e q=>h.ro lI),h.rn,h.ro,h.no_⟩;rw[h1];have:=h.r.set j v (I v) rfl;simpa [putK] using this
theorem RTk.setO (h:RTk w0 w gr nr An nn cn go no s)(j:Nat)(v:Int)(u:Value)(hu:u=I v)(s':VS)(h1:s'.out=putK s.out (j:Nat) v)(h2:s'.regs=s.regs)(h3:s'.next=s.next):RTk w0 (w.setCell ⟨go,j,none⟩ u) gr nr An nn cn go no s':=by
 subst hu;have k:Keep (·=go) w (w.setCell ⟨go,j,none⟩ (I v)):=Keep.one (ec _);have hg:=h.o.lt go rfl;refine⟨h.bel.trans (k.below (fun b e=>by rw[e];exact hg.1) h.bel.size),by rw[h2];exact h.r.kp k (fun b e q=>h.ro lI),by rw[h3];exact h.n.kp k (fun b e q=>h.no_ b e q.symm),?_,h.rn,h.ro,h.no_⟩;rw[h1];have:=h.o.set j v (I v) rfl;simpa [putK] using this
theorem RTk.setN {gn:Nat}(h:RTk w0 w gr nr (some ⟨gn,0,none⟩) nn cn go no s)(j:Nat)(v:Int)(u:Value)(hu:u=I v)(s':VS)(h1:s'.next=putK s.next (j:Nat) v)(h2:s'.regs=s.regs)(h3:s'.out=s.out):RTk w0 (w.setCell ⟨gn,j,none⟩ u) gr nr (some ⟨gn,0,none⟩) nn cn go no s':=by
 subst hu;have k:Keep (·=gn) w (w.setCell ⟨gn,j,none⟩ (I v)):=Keep.one (ec _);have hg:=h.n.lt gn rfl;refine⟨h.bel.trans (k.below (fun b e=>by rw[e];exact hg.1) h.bel.size),by rw[h2];exact h.r.kp k (fun b e q=>h.rn gn rfl lI),?_,by rw[h3];exact h.o.kp k (fun b e q=>h.no_ gn rfl lI),h.rn,h.ro,h.no_⟩;rw[h1];have:=h.n.set j v (I v) rfl;simpa [putK] using this
theorem RTk.to (h:RTk w0 w gr nr An nn cn go no s)(s':VS)(h1:s'.regs=s.regs)(h2:s'.next=s.next)(h3:s'.out=s.out):RTk w0 w gr nr An nn cn go no s':=⟨h.bel,by rw[h1];exact h.r,by rw[h2];exact h.n,by rw[h3];exact h.o,h.rn,h.ro,h.no_⟩
theorem RTk.reg (h:RTk w0 w gr nr An nn cn go no s){j:Nat}(hj:j<nr):w.cell? ⟨gr,j,none⟩=some (I (ba s.regs j))/\w.frozen? ⟨gr,j,none⟩=false:=⟨ky h.r hj,h.r.free j⟩
end
theorem lD (w:World){p q:Addr}(v:Value)(h:p≠q):(w.setCell p v).cell? q=w.cell? q:=World.cell?_setCell_other w p q v h
section
variable {w:World} {x:PA} {p:PV}
theorem rtick_yes (h:bZ w x p)(hv:dG p=true)(hw:eN p)(Ac:Option Addr)(n c:Nat)(cells:List Int)(hc:RI w Ac n cells)(hn:n<=100000)(Ai:Option Addr)(k d:Nat)(l:List Int)(hl:RI w Ai k l)(hk:k<=maxLen)(h64:∀ z ∈ cells,In64 z)(hi64:∀ z ∈ l,In64 z)(hz1:gu p cells=true)(hz2:cx p.ins l=true) :
 Ca 129 #[.agg #[.slice x.A1 x.n1 x.c1,.slice x.A2 x.n2 x.c2,I p.regs,.slice x.A3 x.n3 x.c3,.slice x.A4 x.n4 x.c4],.slice Ac n c,.slice Ai k d] w fun e w'=>∃ A1 c1 A2 c2,e=.returned (.tuple #[.slice A1 n c1,.slice A2 x.n2 c2,I ((goV p cells l 0 (ea p cells)).steps:Nat),I 0])/\Ow iv w' w.heap.size 3 A1 n c1 (goV p cells l 0 (ea p cells)).next/\Ow iv w' w.heap.size 3 A2 x.n2 c2 (goV p cells l 0 (ea p cells)).out/\Below w.heap.size w w':=by
 have O:=gN.of h;generalize hF:goV p cells l 0 (ea p cells)=FIN;have HF:=aT hF;clear hF;have hm0:=(jd hv).1;have hfi:=fun {W:World} (hb:Below w.heap.size w W)=>reffits29_any (h.below (b:=w.heap.size) hb aV) hm0 Ac n c cells (hc.below (B:=w.heap.size) hb aV) bO
 rw[hz1] at hfi;have hrf:=fun {W:World} (hb:Below w.heap.size w W)=>oR x.A1 Ai x.n1 k x.c1 d p.ins l W (h.r1.below (B:=w.heap.size) hb aV) (hl.below (B:=w.heap.size) hb aV) (aj h.k1.1 h.k1.2) hk
 rw[hz2] at hrf;obtain⟨m1,m2,m3,m4,m5,m6,_,_⟩:=dP.1 hm0;have l2:=(fD.1 m2).2.2;have e2:=h.r2.1;have e4:=h.r4.1;have e1:=h.r1.1;have hk4:=h.k4;have ecl:=(ia.1 hz1).1;have eil:=(js.1 hz2).2.1;have ecn:=hc.1;have ein:=hl.1;obtain⟨r,hr⟩:∃ r:Nat,p.regs=(r:Nat):=⟨p.regs.toNat,aS⟩;have r1600:r<=1600:=aS;have n2le:x.n2<=100:=aS;have n4le:x.n4<=2048:=aS;have hmk1:∀ W:World,(Instr.makeSlice 22 (I (r:Int)) (I (r:Int))).run Tryz.prog W=.ok (.slice (some ⟨W.heap.size,0,none⟩) r r) (W.alloc (.cells ((List.replicate r (0:Int)).map iv).toArray 3)):=fun W=>by
  have:=jq dV r aS aS W;rw[show madeCells (I 0).cells r=((List.replicate r (0:Int)).map iv).toArray from by
   apply Array.ext';rw[show (I 0).cells=#[I 0] from rfl,toList_madeCells_one];simp[iv]] at this
  exact this
 have hmk2:∀ W:World,(Instr.makeSlice 22 (I (x.n2:Int)) (I (x.n2:Int))).run Tryz.prog W=.ok (.slice (some ⟨W.heap.size,0,none⟩) x.n2 x.n2) (W.alloc (.cells ((List.replicate x.n2 (0:Int)).map iv).toArray 3)):=fun W=>by
  have:=jq dV x.n2 aS aS W;rw[show madeCells (I 0).cells x.n2=((List.replicate x.n2 (0:Int)).map iv).toArray from by
   apply Array.ext';rw[show (I 0).cells=#[I 0] from rfl,toList_madeCells_one];simp[iv]] at this
  exact this
 have hst:ea p cells=⟨List.replicate r 0,cells,List.replicate x.n2 0,0⟩:=by
  unfold ea;rw[hr,av,<- e2]
 have HST:=aT hst;have HLR:=aT (show (List.replicate r (0:Int)).length=r from List.length_replicate);have HLO:=aT (show (List.replicate x.n2 (0:Int)).length=x.n2 from List.length_replicate);have HC:=aT hc;have HI:=aT hl;have HR:=aT hr;have HOK:=aT (show VOk p (ea p cells) from VOk.start m3 ecl h64);have HS:=aT (show ∀ i,i<x.n4->lq p i (aX p.code i) from fun i hi=>safe_of hv aS);have HIN:=aT (show ∀ i,i<x.n4->In64 (aX p.code i).k from fun i hi=>by
  have hi':i<p.code.length:=aS;have e:=ap hi';have:=hw.code _ (List.getElem_mem hi');rw[gC e];exact⟨this.2.2.2.1,this.2.2.2.2⟩)
 have H64:=aT h64;have HI64:=aT hi64;have EE:=aT (show n=p.cells.length/\k=p.ins.length/\x.n2=p.outs.length/\x.n4=p.code.length from ⟨aS,aS,by omega,aS⟩);clear h hc hl hst h64 hi64 e1 e2 e4 ecl eil ecn ein m1 m2 m3 m4 m5 m6 hz1 hz2 hm0 l2 hk4 hv hw hr;go_enter Tryz.func129,Tryz.ntmps129;go_upto_region 1 with fail;refine dH (fun W=>gN w W w.heap.size x p) O ?_;clear O;intro W O;have HB:=aT O.bel;have HX:=aT O.b;have HP:=aT O.rd;obtain⟨y0,y1,y2,y3,y4⟩:=blk5 O.b;clear O;go_upto_region 3 with (first | ((go_at_call 212;go_call (hfi HB.out) as e w2 ⟨rfl,hb2⟩);have B2:=aT (HB.out.trans (hb2.mono HB.out.size));have X2:=aT (HX.out.below hb2 HX.out.lt);have P2:=aT (HP.out.below (b:=W.heap.size) hb2 aV);have k2:=X2.out.c0;have lb2:=X2.out.lt;clear hb2) | ((go_at_call 30;go_call (hrf B2.out) as e w3 ⟨rfl,rfl⟩)) | fail);have k2r:w2.cell? ⟨w.heap.size,2,none⟩=some (I (r:Int)):=by rw[<- HR.out];exact X2.out.cell 2
 have k21:=X2.out.c1;clear y0 y1 y2 y3 y4 k2 hfi hrf;generalize List.replicate r (0:Int)=zr at *;generalize List.replicate x.n2 (0:Int)=zo at *;have CI2:=aT (HC.out.below B2.out aV);have II2:=aT (HI.out.below B2.out aV);go_upto_region 4 with fail;refine dH (fun W=>Below w2.heap.size w2 W/\Ow iv W w2.heap.size 3 (some ⟨w2.heap.size,0,none⟩) r r zr) ⟨(Below.refl _ _).alloc aV _,gg (Blk.top _ rfl rfl) aV HLR.out bO⟩ ?_;intro W3 ⟨hb3,Hr3⟩;have hs3:=hb3.size;have hcn:=HC.out.1;generalize hgr:w2.heap.size=gr at Hr3;go_upto_region 5 with (first | (at_builtin;refine dF rfl rfl dV eS (s:=.tmp 31) (N:=n) (L:=cells) rfl (Ow.new _ _ #[] [] rfl aU) rfl (k:=cells) (CI2.out.below (hb3.alloc hs3 _) aV).rd bj bj bO aS aZ ?_;intro A5 c5 w5 hown5 hg5 hat5 hb5) | fail);have bb5:Below W3.heap.size W3 w5:=bB (a:=W3) (B:=W3.heap.size) be hb5 aZ;have B25:=aT (hb3.trans (bb5.mono hs3));have X5:=aT (X2.out.below B25.out lb2);have Hn5:=hown5.rebase (base':=gr) aS;have Hr5:=Hr3.below bb5 aV;have drn:∀ b,A5.map (·.block)=some b->gr≠b:=fun b q1 q2=>by
  have h1:=(hown5.lt b q1).1;have h2:=(Hr3.lt gr rfl).2;omega
 have k51:=X5.out.c1;have s5:=bb5.size;clear k2r k21 hb3 Hr3 hown5 hg5 hat5 hb5 bb5;go_upto_region 6 with fail;refine dH (fun W=>Below w2.heap.size w2 W/\∃ gout,gr≠gout/\(∀ b,A5.map (·.block)=some b->gout≠b)/\w5.heap.size=gout/\RTk w2 W gr r A5 n c5 gout x.n2 ⟨zr,cells,zo,0⟩) ?_ ?_
 · have bz:Below w5.heap.size w5 (w5.alloc (.cells (zo.map iv).toArray 3)):=(Below.refl _ _).alloc aV _;have h25:=B25.out.size;have hro:=(Hr5.lt gr rfl).2;exact⟨B25.out.trans (bz.mono h25),w5.heap.size,aS,fun b q1=>by have:=(Hn5.lt b q1).2;omega,rfl,⟨B25.out.trans (bz.mono h25),by rw[hgr];exact Hr5.below bz aV,by rw[hgr];exact Hn5.below bz aV,by rw[hgr];exact (gg (Blk.top _ rfl rfl) aV HLO.out bO).rebase aS,drn,aS,fun b q1=>by have:=(Hn5.lt b q1).2;omega⟩⟩
 intro W6 ⟨_,gout,_,_,hgo,K6⟩;have HK6:=aT K6;have OK0:=aT HOK.out;rw[HST.out] at OK0;rw[hgo];clear hgo k51 Hn5 Hr5 drn hs3 s5 X5;have HFIN:=aT (show goV p cells l (0+0) ⟨zr,cells,zo,0⟩=FIN from by rw[<- HST.out];exact HF.out);have hgr2:=aT hgr;have lgr:w.heap.size<=gr:=by have:=B2.out.size;omega
 rw[hgr] at lb2;clear hgr;go_wp2_with fail;go_loopw [13,14,15] (fun st ov i wr=>∃ (k9 o9:Nat) (s:VS),k9<=x.n4/\i=I (k9:Nat)/\ov=I (o9:Nat)/\st=I (s.steps:Nat)/\s.steps<=k9/\o9<=9223372036854775807/\Hid (goV p cells l (k9+o9) s=FIN)/\Hid (VOk p s)/\Hid (RTk w2 wr gr r A5 n c5 gout x.n2 s)) (fun _ _ i _=>x.n4 - (intOf i).toNat)
 case atStart=>exact⟨0,0,_,aS,rfl,rfl,rfl,Nat.le_refl _,aS,HFIN.out,OK0.out,HK6.out⟩
 case round=>
  clear HFIN OK0 HK6;obtain⟨k9,o9,s,hk9,rfl,rfl,rfl,hsk,ho9,hfin,hok,hK⟩:=hrel;obtain⟨hbel,hbw⟩:Hid (Below w2.heap.size w2 wr)/\w2.heap.size<=wr.heap.size:=⟨hK.out.bel,hK.out.bel.size⟩;have y4:=(X2.out.below hbel.out X2.out.lt).c4;have lx4:w.heap.size<wr.heap.size:=by have:=X2.out.lt;omega
  by_cases hlt:k9<x.n4
  · obtain⟨b,o,y,hA,hb,hy,hc⟩:=((P2.out.below (b:=w2.heap.size) hbel.out aV).r4).at_ gH aS hlt;have hI:=aT (gC hy);have hsafe:=aT (HS.out k9 hlt);have hkin:=aT (HIN.out k9 hlt);obtain⟨op,ya,yb,yc,yk⟩:=y;have h0:wr.cell? ⟨b,o+k9 * 5,none⟩=some (I op):=hc 0 aS;have h1:wr.cell? ⟨b,o+k9 * 5+1,none⟩=some (I ya):=hc 1 aS;have h2:wr.cell? ⟨b,o+k9 * 5+2,none⟩=some (I yb):=hc 2 aS;have h3:wr.cell? ⟨b,o+k9 * 5+3,none⟩=some (I yc):=hc 3 aS;have h4:wr.cell? ⟨b,o+k9 * 5+4,none⟩=some (I yk):=hc 4 aS;rw[hA] at y4;clear hA hc hy;go_upto_region 12 with fail;have lgr2:=(hK.out.r.lt gr rfl).2;have lgo2:=(hK.out.o.lt gout rfl).2;have lgr1:=(hK.out.r.lt gr rfl).1;have lgo1:=(hK.out.o.lt gout rfl).1;have HLN:∀ gn,A5.map (·.block)=some gn->gn<wr.heap.size:=fun gn e=>(hK.out.n.lt gn e).2
    refine dH (fun W=>RTk w2 W gr r A5 n c5 gout x.n2 s/\Blk W wr.heap.size 144 [I op,I ya,I yb,I yc,I yk]) ⟨hK.out.below ((Below.refl _ _).alloc aV _),Blk.top _ rfl rfl⟩ ?_;intro w4 ⟨K4',X4'⟩;have K4:=aT K4';have X4:=aT X4';obtain⟨x0,x1,x2,x3,x4⟩:=blk5 X4';have xl:=X4'.lt;have B4:=aT K4'.bel;clear K4' X4' hK hbel y4 h0 h1 h2 h3 h4
    cases o9 with
    | succ o9=>
      go_wp2_with fail;go_roundw
      case rel=>first
       | exact⟨k9+1,o9,s,aS,by go_num,by go_num,rfl,aS,by omega,oK,hok.out,K4.out⟩
       | ((repeat apply Exists.intro);exact⟨⟨k9+1,o9,s,aS,by go_num,by go_num,rfl,aS,by omega,oK,hok.out,K4.out⟩,rfl⟩)
      case measure=>simp[intOf];omega
    | zero=>
      have hkl:k9<p.code.length:=by have:=EE.out.2.2.2;omega
      have hst:=goV_step (p:=p) (cells:=cells) (ins:=l) (s:=s) hkl;rw[hI.out] at hst;have hf0:=hfin.out;rw[Nat.add_zero] at hf0;have HF2:=aT (hst.symm.trans hf0);have hok2:=hok.out.exec (x:=aX p.code k9) H64.out HI64.out hkin.out;rw[hI.out] at hok2;have HOK2:=aT hok2;have HH:=aT hok.out;have hsf:=hsafe.out;rw[hI.out] at hsf;have HSF:=aT hsf;have HK64:yk<=9223372036854775807:=by have:=hkin.out;rw[hI.out] at this;exact this.2
      clear hst hf0 hfin hok2 hok hsafe;obtain⟨a0,a1,hb',hcc,h27,h21,h28,h29,h30,hab,hac,hak,hop⟩:=hsf;simp only at a0 a1 hb' hcc h27 h21 h28 h29 h30 hab hac hak hop;have hrr:=HR.out;obtain⟨ja,rfl⟩:=fq a0;have ha:ja<r:=aS;clear hb' hcc h27 hab hac hak hkin hI
      by_cases q21:op=21
      · obtain⟨k0,k1⟩:=h21 (.inl q21);obtain⟨jk,rfl⟩:=fq k0;subst q21;have hjk:jk<n:=by have:=EE.out.1;omega
        have hv:dE cells l ⟨21,(ja:Nat),yb,yc,(jk:Nat)⟩ s={ s with regs:=putK s.regs (ja:Nat) (ba cells jk),steps:=s.steps+1 }:=rfl;have ho:fI ⟨21,(ja:Nat),yb,yc,(jk:Nat)⟩ s.regs=0:=rfl;rw[hv,ho] at HF2;rw[hv] at HOK2;obtain⟨b1,o1,rfl,hb1,hc1⟩:=CI2.out.at_ hjk;replace hc1:=(fK B4.out hb1).trans hc1;obtain⟨ra,fa⟩:=K4.out.reg ha;clear hv ho h21 h28 h29 h30 hop a0 a1 hrr k0 k1 HSF;go_upto_region 16 with fail;have s1:=(cN w4 (p:=⟨gr,ja,none⟩) (q:=⟨wr.heap.size,1,none⟩) (I (ba cells jk)) cy).trans x1;have s2:=(cN w4 (p:=⟨gr,ja,none⟩) (q:=⟨wr.heap.size,4,none⟩) (I (ba cells jk)) cy).trans x4;have s3:=(cN w4 (p:=⟨gr,ja,none⟩) (q:=⟨b1,o1+jk,none⟩) (I (ba cells jk)) cy).trans hc1;go_region_held3 (fun w'=>w'.cell? ⟨wr.heap.size,1,none⟩=some (I (ja:Nat))/\w'.cell? ⟨wr.heap.size,4,none⟩=some (I (jk:Nat))/\w'.cell? ⟨b1,o1+jk,none⟩=some (I (ba cells jk))) (first | go_keep | (refine⟨?_,?_,?_⟩ <;> assumption)) (fail);go_wp2_with fail;go_roundw
        case rel=>first
         | exact⟨k9+1,0,{ s with regs:=putK s.regs (ja:Nat) (ba cells jk),steps:=s.steps+1 },aS,by first | trivial | go_num,by first | rfl | trivial | go_num,by first | trivial | go_num,by show s.steps+1<=k9+1;omega,aS,HF2.out,HOK2.out,(K4.out.drew.setR ja _ _ rfl _ rfl rfl rfl)⟩
         | ((repeat apply Exists.intro);exact⟨⟨k9+1,0,{ s with regs:=putK s.regs (ja:Nat) (ba cells jk),steps:=s.steps+1 },aS,by first | trivial | go_num,by first | rfl | trivial | go_num,by first | trivial | go_num,by show s.steps+1<=k9+1;omega,aS,HF2.out,HOK2.out,(K4.out.drew.setR ja _ _ rfl _ rfl rfl rfl)⟩,rfl⟩)
        case measure=>simp[intOf];omega
      by_cases q28:op=28
      · obtain⟨k0,k1⟩:=h28 q28;obtain⟨jk,rfl⟩:=fq k0;subst q28;have hjk:jk<k:=by have:=EE.out.2.1;omega
        have hv:dE cells l ⟨28,(ja:Nat),yb,yc,(jk:Nat)⟩ s={ s with regs:=putK s.regs (ja:Nat) (ba l jk),steps:=s.steps+1 }:=rfl;have ho:fI ⟨28,(ja:Nat),yb,yc,(jk:Nat)⟩ s.regs=0:=rfl;rw[hv,ho] at HF2;rw[hv] at HOK2;obtain⟨b1,o1,rfl,hb1,hc1⟩:=II2.out.at_ hjk;replace hc1:=(fK B4.out hb1).trans hc1;obtain⟨ra,fa⟩:=K4.out.reg ha;clear hv ho h21 h28 h29 h30 hop a0 a1 hrr k0 k1 HSF q21;go_upto_region 18 with fail;have s1:=(cN w4 (p:=⟨gr,ja,none⟩) (q:=⟨wr.heap.size,1,none⟩) (I (ba l jk)) cy).trans x1;have s2:=(cN w4 (p:=⟨gr,ja,none⟩) (q:=⟨wr.heap.size,4,none⟩) (I (ba l jk)) cy).trans x4;have s3:=(cN w4 (p:=⟨gr,ja,none⟩) (q:=⟨b1,o1+jk,none⟩) (I (ba l jk)) cy).trans hc1;go_region_held3 (fun w'=>w'.cell? ⟨wr.heap.size,1,none⟩=some (I (ja:Nat))/\w'.cell? ⟨wr.heap.size,4,none⟩=some (I (jk:Nat))/\w'.cell? ⟨b1,o1+jk,none⟩=some (I (ba l jk))) (first | go_keep | (refine⟨?_,?_,?_⟩ <;> assumption)) (fail);go_wp2_with fail;go_roundw
        case rel=>first
         | exact⟨k9+1,0,{ s with regs:=putK s.regs (ja:Nat) (ba l jk),steps:=s.steps+1 },aS,by first | trivial | go_num,by first | rfl | trivial | go_num,by first | trivial | go_num,by show s.steps+1<=k9+1;omega,aS,HF2.out,HOK2.out,(K4.out.drew.setR ja _ _ rfl _ rfl rfl rfl)⟩
         | ((repeat apply Exists.intro);exact⟨⟨k9+1,0,{ s with regs:=putK s.regs (ja:Nat) (ba l jk),steps:=s.steps+1 },aS,by first | trivial | go_num,by first | rfl | trivial | go_num,by first | trivial | go_num,by show s.steps+1<=k9+1;omega,aS,HF2.out,HOK2.out,(K4.out.drew.setR ja _ _ rfl _ rfl rfl rfl)⟩,rfl⟩)
        case measure=>simp[intOf];omega
      by_cases q29:op=29
      · obtain⟨k0,k1⟩:=h29 q29;obtain⟨jk,rfl⟩:=fq k0;subst q29;have hjk:jk<x.n2:=by have:=EE.out.2.2.1;omega
        have hv:dE cells l ⟨29,(ja:Nat),yb,yc,(jk:Nat)⟩ s={ s with out:=putK s.out (jk:Nat) (ba s.regs ja),steps:=s.steps+1 }:=rfl;have ho:fI ⟨29,(ja:Nat),yb,yc,(jk:Nat)⟩ s.regs=0:=rfl;rw[hv,ho] at HF2;rw[hv] at HOK2;obtain⟨ra,fa⟩:=K4.out.reg ha;have rj:=ky K4.out.o hjk;have fj:=K4.out.o.free jk;have hgo:=K4.out.ro;clear hv ho h21 h28 h29 h30 hop a0 a1 hrr k0 k1 HSF q21 q28;go_upto_region 20 with fail;have s1:=(cN w4 (p:=⟨gout,jk,none⟩) (q:=⟨wr.heap.size,1,none⟩) (I (ba s.regs ja)) cy).trans x1;have s2:=(cN w4 (p:=⟨gout,jk,none⟩) (q:=⟨wr.heap.size,4,none⟩) (I (ba s.regs ja)) cy).trans x4;have s3:=(cN w4 (p:=⟨gout,jk,none⟩) (q:=⟨gr,ja,none⟩) (I (ba s.regs ja)) cy).trans ra;go_region_held3 (fun w'=>w'.cell? ⟨wr.heap.size,1,none⟩=some (I (ja:Nat))/\w'.cell? ⟨wr.heap.size,4,none⟩=some (I (jk:Nat))/\w'.cell? ⟨gr,ja,none⟩=some (I (ba s.regs ja))) (first | go_keep | (refine⟨?_,?_,?_⟩ <;> assumption)) (fail);go_wp2_with fail;go_roundw
        case rel=>first
         | exact⟨k9+1,0,{ s with out:=putK s.out (jk:Nat) (ba s.regs ja),steps:=s.steps+1 },aS,by first | trivial | go_num,by first | rfl | trivial | go_num,by first | trivial | go_num,by show s.steps+1<=k9+1;omega,aS,HF2.out,HOK2.out,(K4.out.drew.setO jk _ _ rfl _ rfl rfl rfl)⟩
         | ((repeat apply Exists.intro);exact⟨⟨k9+1,0,{ s with out:=putK s.out (jk:Nat) (ba s.regs ja),steps:=s.steps+1 },aS,by first | trivial | go_num,by first | rfl | trivial | go_num,by first | trivial | go_num,by show s.steps+1<=k9+1;omega,aS,HF2.out,HOK2.out,(K4.out.drew.setO jk _ _ rfl _ rfl rfl rfl)⟩,rfl⟩)
        case measure=>simp[intOf];omega
      by_cases q32:op=32
      · obtain⟨k0,k1⟩:=h21 (.inr q32);obtain⟨jk,rfl⟩:=fq k0;subst q32;have hjk:jk<n:=by have:=EE.out.1;omega
        have hv:dE cells l ⟨32,(ja:Nat),yb,yc,(jk:Nat)⟩ s={ s with next:=putK s.next (jk:Nat) (ba s.regs ja),steps:=s.steps+1 }:=rfl;have ho:fI ⟨32,(ja:Nat),yb,yc,(jk:Nat)⟩ s.regs=0:=rfl;rw[hv,ho] at HF2;rw[hv] at HOK2;obtain⟨ra,fa⟩:=K4.out.reg ha;obtain⟨gn,rfl,_⟩:=K4.out.n.addr aS;have lgn:=K4.out.n.lt gn rfl;have lgn2:=HLN gn rfl;have rj:=ky K4.out.n hjk;have fj:=K4.out.n.free jk;have hgo:=K4.out.rn gn rfl;clear hv ho h21 h28 h29 h30 hop a0 a1 hrr k0 k1 HSF q21 q28 q29;go_upto_region 22 with fail;have s1:=(cN w4 (p:=⟨gn,jk,none⟩) (q:=⟨wr.heap.size,1,none⟩) (I (ba s.regs ja)) cy).trans x1;have s2:=(cN w4 (p:=⟨gn,jk,none⟩) (q:=⟨wr.heap.size,4,none⟩) (I (ba s.regs ja)) cy).trans x4;have s3:=(cN w4 (p:=⟨gn,jk,none⟩) (q:=⟨gr,ja,none⟩) (I (ba s.regs ja)) cy).trans ra;go_region_held3 (fun w'=>w'.cell? ⟨wr.heap.size,1,none⟩=some (I (ja:Nat))/\w'.cell? ⟨wr.heap.size,4,none⟩=some (I (jk:Nat))/\w'.cell? ⟨gr,ja,none⟩=some (I (ba s.regs ja))) (first | go_keep | (refine⟨?_,?_,?_⟩ <;> assumption)) (fail);go_wp2_with fail;go_roundw
        case rel=>first
         | exact⟨k9+1,0,{ s with next:=putK s.next (jk:Nat) (ba s.regs ja),steps:=s.steps+1 },aS,by first | trivial | go_num,by first | rfl | trivial | go_num,by first | trivial | go_num,by show s.steps+1<=k9+1;omega,aS,HF2.out,HOK2.out,(K4.out.drew.setN jk _ _ rfl _ rfl rfl rfl)⟩
         | ((repeat apply Exists.intro);exact⟨⟨k9+1,0,{ s with next:=putK s.next (jk:Nat) (ba s.regs ja),steps:=s.steps+1 },aS,by first | trivial | go_num,by first | rfl | trivial | go_num,by first | trivial | go_num,by show s.steps+1<=k9+1;omega,aS,HF2.out,HOK2.out,(K4.out.drew.setN jk _ _ rfl _ rfl rfl rfl)⟩,rfl⟩)
        case measure=>simp[intOf];omega
      by_cases q30:op=30
      · obtain⟨k0,k1⟩:=h30 (.inl q30);subst q30;have hv:dE cells l ⟨30,(ja:Nat),yb,yc,yk⟩ s={ s with steps:=s.steps+1 }:=rfl;have ho:fI ⟨30,(ja:Nat),yb,yc,yk⟩ s.regs=if ba s.regs ja=0 then yk.toNat else 0:=by
         unfold fI atK
         by_cases e:ba s.regs ja=0
         · simp[e]
         · simp[e]
        have hk64:=HK64;rw[hv,ho] at HF2;rw[hv] at HOK2;obtain⟨ra,fa⟩:=K4.out.reg ha;clear hv ho h21 h28 h29 h30 hop a0 a1 hrr k1 HSF q21 q28 q29 q32
        by_cases e:ba s.regs ja=0
        · rw[if_pos e] at HF2;rw[e] at ra;clear e;have hyk:=Int.toNat_of_nonneg k0;generalize yk.toNat=jk at *;subst hyk;go_wp2_with fail;go_roundw
          case rel=>first
           | exact⟨k9+1,jk,{ s with steps:=s.steps+1 },aS,by first | trivial | go_num,by first | rfl | trivial | go_num,by first | trivial | go_num,by show s.steps+1<=k9+1;omega,aS,HF2.out,HOK2.out,(K4.out.to _ rfl rfl rfl)⟩
           | ((repeat apply Exists.intro);exact⟨⟨k9+1,jk,{ s with steps:=s.steps+1 },aS,by first | trivial | go_num,by first | rfl | trivial | go_num,by first | trivial | go_num,by show s.steps+1<=k9+1;omega,aS,HF2.out,HOK2.out,(K4.out.to _ rfl rfl rfl)⟩,rfl⟩)
          case measure=>simp[intOf];omega
        · rw[if_neg e] at HF2;have e0:(ba s.regs ja == 0)=false:=by rw[ae];exact e
          clear e;generalize ba s.regs ja=u at *;go_wp2_with fail;go_roundw
          case rel=>first
           | exact⟨k9+1,0,{ s with steps:=s.steps+1 },aS,by first | trivial | go_num,by first | rfl | trivial | go_num,by first | trivial | go_num,by show s.steps+1<=k9+1;omega,aS,HF2.out,HOK2.out,(K4.out.to _ rfl rfl rfl)⟩
           | ((repeat apply Exists.intro);exact⟨⟨k9+1,0,{ s with steps:=s.steps+1 },aS,by first | trivial | go_num,by first | rfl | trivial | go_num,by first | trivial | go_num,by show s.steps+1<=k9+1;omega,aS,HF2.out,HOK2.out,(K4.out.to _ rfl rfl rfl)⟩,rfl⟩)
          case measure=>simp[intOf];omega
      by_cases q31:op=31
      · obtain⟨k0,k1⟩:=h30 (.inr q31);subst q31;have hv:dE cells l ⟨31,(ja:Nat),yb,yc,yk⟩ s={ s with steps:=s.steps+1 }:=rfl;have ho:fI ⟨31,(ja:Nat),yb,yc,yk⟩ s.regs=if ba s.regs ja≠0 then yk.toNat else 0:=by
         unfold fI atK
         by_cases e:ba s.regs ja=0
         · simp[e]
         · simp[e]
        have hk64:=HK64;rw[hv,ho] at HF2;rw[hv] at HOK2;obtain⟨ra,fa⟩:=K4.out.reg ha;clear hv ho h21 h28 h29 h30 hop a0 a1 hrr k1 HSF q21 q28 q29 q32 q30
        by_cases e:ba s.regs ja≠0
        · rw[if_pos e] at HF2;have e0:(ba s.regs ja != 0)=true:=by rw[af];exact e
          clear e;generalize ba s.regs ja=u at *;have hyk:=Int.toNat_of_nonneg k0;generalize yk.toNat=jk at *;subst hyk;go_wp2_with fail;go_roundw
          case rel=>first
           | exact⟨k9+1,jk,{ s with steps:=s.steps+1 },aS,by first | trivial | go_num,by first | rfl | trivial | go_num,by first | trivial | go_num,by show s.steps+1<=k9+1;omega,aS,HF2.out,HOK2.out,(K4.out.to _ rfl rfl rfl)⟩
           | ((repeat apply Exists.intro);exact⟨⟨k9+1,jk,{ s with steps:=s.steps+1 },aS,by first | trivial | go_num,by first | rfl | trivial | go_num,by first | trivial | go_num,by show s.steps+1<=k9+1;omega,aS,HF2.out,HOK2.out,(K4.out.to _ rfl rfl rfl)⟩,rfl⟩)
          case measure=>simp[intOf];omega
        · rw[if_neg e] at HF2;have e0:=Decidable.not_not.1 e;rw[e0] at ra;clear e e0;go_wp2_with fail;go_roundw
          case rel=>first
           | exact⟨k9+1,0,{ s with steps:=s.steps+1 },aS,by first | trivial | go_num,by first | rfl | trivial | go_num,by first | trivial | go_num,by show s.steps+1<=k9+1;omega,aS,HF2.out,HOK2.out,(K4.out.to _ rfl rfl rfl)⟩
           | ((repeat apply Exists.intro);exact⟨⟨k9+1,0,{ s with steps:=s.steps+1 },aS,by first | trivial | go_num,by first | rfl | trivial | go_num,by first | trivial | go_num,by show s.steps+1<=k9+1;omega,aS,HF2.out,HOK2.out,(K4.out.to _ rfl rfl rfl)⟩,rfl⟩)
          case measure=>simp[intOf];omega
      have hv:dE cells l ⟨op,(ja:Nat),yb,yc,yk⟩ s={ s with regs:=putK s.regs (ja:Nat) (iB cells l ⟨op,(ja:Nat),yb,yc,yk⟩ s.regs),steps:=s.steps+1 }:=by
       unfold dE;simp only;rw[if_neg q29,if_neg q32,if_neg aS]
      have ho:fI ⟨op,(ja:Nat),yb,yc,yk⟩ s.regs=0:=by
       unfold fI;rw[if_neg (by rintro (⟨h,_⟩ | ⟨h,_⟩);exact q30 h;exact q31 h)]
      rw[hv,ho] at HF2;rw[hv] at HOK2;have hrk:=fun {W:World} (h:RI W (some ⟨gr,0,none⟩) r s.regs)=>rreckon_any (d:=r) HSF.out h aS HH.out.rr cells l q21 q28 q29 q30 q31 q32
      simp only at hrk;have n21:(op == 21)=false:=by rw[ae];exact q21
      have n28:(op == 28)=false:=by rw[ae];exact q28
      have n29:(op == 29)=false:=by rw[ae];exact q29
      have n32:(op == 32)=false:=by rw[ae];exact q32
      have n30:(op == 30)=false:=by rw[ae];exact q30
      have n31:(op == 31)=false:=by rw[ae];exact q31
      obtain⟨ra,fa⟩:=K4.out.reg ha;generalize iB cells l ⟨op,(ja:Nat),yb,yc,yk⟩ s.regs=v at *;generalize ba s.regs ja=u at *;clear hv ho h21 h28 h29 h30 hop a0 a1 hrr HSF q21 q28 q29 q32 q30 q31;go_upto_region 29 with fail;go_region_held3 (fun w'=>w'.cell? ⟨wr.heap.size,0,none⟩=some (I op)/\w'.cell? ⟨wr.heap.size,1,none⟩=some (I (ja:Nat))/\w'.cell? ⟨wr.heap.size,2,none⟩=some (I yb)/\w'.cell? ⟨wr.heap.size,3,none⟩=some (I yc)/\w'.cell? ⟨wr.heap.size,4,none⟩=some (I yk)) (first | go_keep | (refine⟨?_,?_,?_,?_,?_⟩ <;> assumption)) (first | ((go_at_call 213;go_call (hrk (K4.out.drew.r.rd.ri)) as e w5 ⟨rfl,hb5⟩);have b45:Below w4.heap.size w4 w5:=bB (a:=w4) (B:=w4.heap.size) be hb5 aZ;have K5:=aT (K4.out.below b45);obtain⟨z0,z1,z2,z3,z4⟩:=blk5 (X4.out.below b45 xl);obtain⟨ra5,fa5⟩:=K5.out.reg ha;have s0:=(lD w5 (p:=⟨gr,ja,none⟩) (q:=⟨wr.heap.size,0,none⟩) (I v) cy).trans z0;have s1:=(lD w5 (p:=⟨gr,ja,none⟩) (q:=⟨wr.heap.size,1,none⟩) (I v) cy).trans z1;have s2:=(lD w5 (p:=⟨gr,ja,none⟩) (q:=⟨wr.heap.size,2,none⟩) (I v) cy).trans z2;have s3:=(lD w5 (p:=⟨gr,ja,none⟩) (q:=⟨wr.heap.size,3,none⟩) (I v) cy).trans z3;have s4:=(lD w5 (p:=⟨gr,ja,none⟩) (q:=⟨wr.heap.size,4,none⟩) (I v) cy).trans z4) | fail);go_wp2_with fail;go_roundw
      case rel=>first
       | exact⟨k9+1,0,{ s with regs:=putK s.regs (ja:Nat) v,steps:=s.steps+1 },aS,by first | trivial | go_num,by first | rfl | trivial | go_num,by first | trivial | go_num,by show s.steps+1<=k9+1;omega,aS,HF2.out,HOK2.out,(K5.out.setR ja _ _ rfl _ rfl rfl rfl)⟩
       | ((repeat apply Exists.intro);exact⟨⟨k9+1,0,{ s with regs:=putK s.regs (ja:Nat) v,steps:=s.steps+1 },aS,by first | trivial | go_num,by first | rfl | trivial | go_num,by first | trivial | go_num,by show s.steps+1<=k9+1;omega,aS,HF2.out,HOK2.out,(K5.out.setR ja _ _ rfl _ rfl rfl rfl)⟩,rfl⟩)
      case measure=>simp[intOf];omega
  · have hk:k9=x.n4:=aS;subst hk;have HS9:=aT (show s=FIN from by rw[<- hfin.out];exact (goV_end (by have:=EE.out.2.2.2;omega)).symm);have hgw:=B2.out.size;go_wp2_with fail;go_returns;have hh:=HS9.out;subst hh;exact⟨A5,c5,some ⟨gout,0,none⟩,x.n2,rfl,hK.out.n.rebase hgw,hK.out.o.rebase hgw,B2.out.trans (hbel.out.mono hgw)⟩
end
