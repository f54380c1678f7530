/- Parts. -/
import Derived.Test.YtmeebofhlilcmaaGreatPr11
set_option linter.unusedVariables false
set_option linter.unusedSimpArgs false
set_option maxRecDepth 100000
set_option maxHeartbeats 0
namespace Go.Proofs.YtmeebofhlilcmaaGreat
variable {l load b:List UInt8} {n kind:Int} {D:aX} {f m i k:Nat}
open Go.RowKit
theorem RB.same {w w':World}{g o n:Nat}{t:TypeId}{cs:List Value}(h:RB w (some ⟨g,o,none⟩) n l)(hb:Blk w g t cs)(hb':Blk w' g t cs)(hs:w.heap.size<=w'.heap.size):RB w' (some ⟨g,o,none⟩) n l :=
 ⟨h.1,h.2.sameB hs (fun b e _=>by
  simp only[Option.map_some,Option.some.injEq] at e;subst e;exact Eq.trans hb' (Eq.symm hb))⟩
theorem RB.piece {w:World}{g o n:Nat}(h:RB w (some ⟨g,o,none⟩) n l)(L m:Nat)(hm:L+m<=n):RB w (some ⟨g,o+L,none⟩) m ((l.drop L).take m):=by
 refine⟨by rw[aA,aH,h.1];omega,fun h0=>?_⟩;obtain⟨b,o',e,hb,hc⟩:=h.2 aS;injection e with e;injection e with e1 e2 _;subst e1 e2;refine⟨_,_,rfl,hb,fun i hi=>?_⟩;have:=hc (L+i) aS;rw[Nat.add_assoc,this];unfold bx;simp[ah,hi]
theorem equal_any (g1 o1 g2 o2 n c d:Nat)(l k:List UInt8)(w:World)(h1:RB w (some ⟨g1,o1,none⟩) n l)(h2:RB w (some ⟨g2,o2,none⟩) n k)(hn:0<n) :
 Ca 283 #[.slice (some ⟨g1,o1,none⟩) n c,.slice (some ⟨g2,o2,none⟩) n d] w fun e w'=>e=.returned (.bool (decide (l=k)))/\w=w':=by
 have conv:∀ (g o c:Nat) (l:List UInt8),RB w (some ⟨g,o,none⟩) n l->(convert 27 9 (.slice (some ⟨g,o,none⟩) n c)).run Tryz.prog w=.ok (.string ⟨l.toArray⟩) w:=fun g o c l h=>by
  have hx:=run_convert_bytes_back (P:=Tryz.prog) w 27 9 5 ⟨g,o,none⟩ c l Tryz.underlying27 Tryz.underlying5 bM (fun j hj=>by
   obtain⟨b1,o1,hA,_,hc⟩:=h.at_ (k:=j) (by rw[<- h.1];exact hj);injection hA with hA;injection hA with h1 h2 _;subst h1 h2;rw[show (⟨g,o,none⟩:Addr).add j=⟨g,o+j,none⟩ from by simp[Addr.add];try omega,hc];unfold bx;rw[ah,ap hj]
   rfl)
  rwa [h.1] at hx
 have v1:=conv g1 o1 c l h1;have v2:=conv g2 o2 d k h2;clear conv h1 h2;go_enter Tryz.func283,Tryz.ntmps283;go_wp2;go_ret;exact⟨df (Bool.eq_iff_iff.2 (by rw[beq_iff_eq,aq])),rfl⟩
theorem pI (n:Nat)(w:World)(h:n<=100000):Ca 282 #[I (n:Nat)] w fun e w'=>e=.returned (I (cu n:Nat))/\w=w':=by
 have e:((cu n:Nat):Int)=((n:Int)+127) / 128:=by unfold cu;omega
 rw[e];go_enter Tryz.func282,Tryz.ntmps282;go_wp2;go_ret;refine⟨?_,rfl⟩
 show Ending.returned (I (((n:Int)+128 - 1) / 128))=_
 rw[show (n:Int)+128 - 1=(n:Int)+127 by omega]
section
variable {w w':World} {base ga f m:Nat} {p:bE} {D:aX}
theorem take_on (h:(cP D f m n kind).2.2=0):D.off=false/\(bN D f m n).1=dZ D:=by
 have h1:(bN D f m n).2.2=0:=by
  apply Classical.byContradiction;intro hc;unfold cP at h;rw[if_pos hc] at h;exact hc h
 unfold bN at h1 ⊢
 split at h1
 · exact absurd h1 aZ
 · rename_i hc;rw[if_neg hc];unfold eW at h1 ⊢
   split at h1
   · rename_i hm;exact absurd h1 hm
   · rename_i hm;rw[if_neg hm];exact⟨(kT (Decidable.of_not_not hm)).1,rfl⟩
theorem sumL_len (l:List UInt8):(sumL l).length=4:=gV _
theorem body_read {j:Nat}(hd:be w base p (rdK D j))(hs:base<=w.heap.size)(ha:bD w ga p.d f m)(hoff:D.off=false)(hfm:f+m<=D.many)(hj:1+j<m) :
 Ca 162 #[.pointer (some ⟨ga,0,none⟩),I (1+(j:Int))] w fun e w'=>e=.returned (.tuple #[aggB (ch D.now ((f+(1+j):Nat):Int)),I 0])/\be w' base p (rdK D (j+1))/\Step mutD base p w w':=by
 obtain⟨o,eo⟩:=gO D j;have hon:bN (rdK D j) f m ((1+j:Nat):Int)=(rdK D (j+1),ch D.now ((f+(1+j):Nat):Int),0):=by
  rw[kU (by rw[eo];exact hoff) kK hj]
  show (rdK D (j+1),ch (rdK D j).now _,(0:Int))=_
  rw[eo]
 have crd:=lD hd hs ha (f:=f) (m:=m) kK ((1+j:Nat):Int);rw[hon] at crd;rw[show (1+(j:Int))=((1+j:Nat):Int) by omega];exact crd
def j8 (w:World)(base:Nat)(p:bE)(R:aX × List UInt8 × Int × Int)(e:Ending)(w':World):Prop :=
 ∃ B n d,e=.returned (.tuple #[.slice B n d,I R.2.2.1,I R.2.2.2])/\n<=d/\d<=maxLen/\n<=512/\eq w' base ⟨B,n,d⟩ R.2.1/\be w' base p R.1/\Step mutD base p w w'
theorem j8.no {z:Int}(hd:be w' base p D)(st:Step mutD base p w w'):j8 w base p (D,[],0,z) (.returned (.tuple #[.slice none 0 0,I 0,I z])) w' :=
 ⟨none,0,0,rfl,Nat.le_refl _,by decide,aS,⟨⟨rfl,Row.nil _ _ _⟩,by decide,fun h=>absurd h aZ⟩,hd,st⟩
theorem whole_any (hd:be w base p D)(hs:base<=w.heap.size)(ha:bD w ga p.d f m)(hm:5<=m)(hfm:f+m<=D.many) :
 Ca 231 #[.pointer (some ⟨ga,0,none⟩)] w (j8 w base p (cd D f m)):=by
 have hok:D.Ok:=by obtain⟨A,c,h⟩:=hd;exact h.ok
 have hm4:f+m<=4096:=by have:=hok.many1;omega
 have ctk:Ca 158 #[.pointer (some ⟨ga,0,none⟩),I 0,I 2] w fun e w'=>
  ∃ B k d,e=.returned (.tuple #[I (cP D f m 0 2).1,.slice B k d,I (cP D f m 0 2).2.2])/\OB w' w.heap.size 5 B k d (cP D f m 0 2).2.1/\be w' base p (bN D f m 0).1/\Step mutD base p w w':=s_atake hd hs ha hfm 0 2
 have hon:=take_on (D:=D) (f:=f) (m:=m) (n:=0) (kind:=2);have HD:=aT hd;have HA:=aT ha;have HOK:=aT hok;unfold cd;generalize cP D f m 0 2=T at *;obtain⟨N,L,er⟩:=T;generalize hD1:(bN D f m 0).1=D1 at *;have HD1:=aT hD1;simp only at ctk hon ⊢;clear hd ha hok hD1
 by_cases her:er=0
 · subst her;rw[if_neg aZ]
   by_cases hl:L.length=12
   · rw[if_neg (by rw[hl];simp)];have HL:=aT hl;clear hl;obtain⟨hN,hhN⟩:∃ hN,sg (getL (L.take 8))=hN:=⟨_,rfl⟩;have HN:=aT hhN;rw[show fw L=hN from hhN];clear hhN
     by_cases hn:hN<0\/512<hN
     · rw[if_pos hn];have hc:hN<0\/(0<=hN/\512<hN):=aS;clear hn hon;rcases hc with h1 | ⟨h1,h2⟩
       all_goals
        go_enter Tryz.func231,Tryz.ntmps231;go_wp2_with (first | ((go_at_call 158;go_call (ctk) as e w1 ⟨B,k,d,rfl,o1,d1,st1⟩);obtain rfl:k=12:=(by have e1:=o1.1;have e2:=HL.out;omega);obtain⟨gh,oh,rfl,hbl1,_⟩:=o1.rd.2.at_ (k:=0) aS;obtain⟨hcs,hblk⟩:=Ow.blk (enc:=bv) o1 (g:=gh) rfl;have hd12:=o1.cap;have hcut:∀ W,(Instr.slice 27 (.slice (some ⟨gh,oh,none⟩) 12 d) none (some (I 8)) none).run Tryz.prog W=.ok (.slice (some ⟨gh,oh,none⟩) 8 d) W:=jM cH (some ⟨gh,oh,none⟩) 12 d 8 aS;have cget:Ca 237 #[.slice (some ⟨gh,oh,none⟩) 8 d] w1 fun e w'=>e=.returned (.tuple #[I (hN),I 0])/\w1=w':=pd;have HO1:=aT o1;have D1':=aT d1;have S1:=aT st1;have HBK:=aT hblk;have s1:=st1.size;clear o1 d1 st1 hblk) | (go_at_call 237;go_call (cget) as e w2 ⟨rfl,rfl⟩) | fail);go_ret3;exact j8.no D1'.out S1.out
     · rw[if_neg hn];obtain⟨nn,hnn⟩:∃ nn:Nat,hN=(nn:Int):=⟨hN.toNat,aS⟩;subst hnn;have hn512:nn<=512:=aS;rw[ax];obtain⟨hoff,hd1⟩:=hon rfl;have hK:cu nn<=4:=by unfold cu;omega
       have hKn:nn<=cu nn * 128:=by unfold cu;omega
       have hoff1:D1.off=false:=by rw[hd1];exact hoff
       have hfm1:f+m<=D1.many:=by rw[hd1];exact hfm
       have hnow:D.now=D1.now:=by rw[hd1];rfl
       have hok1:D1.now.length=D1.many * 128:=by rw[hd1];exact HOK.out.now
       rw[hnow];have HSE:=aT (fun (w:World)=>pI nn w aS);have hbl:=aT (bodyL_len hok1 (f:=f) (cu nn) aS);generalize hKe:cu nn=K at *;generalize hRe:(if sumL ((fW D1.now f K).take nn)=L.drop 8 then (rdK D1 K,(fW D1.now f K).take nn,N,(0:Int)) else (rdK D1 K,[],0,53))=R;have HRE:=aT hRe;clear hRe;have HSL:=aT (fun j (hj:j<K)=>iC hok1 (n:=((f+(1+j):Nat):Int)) aS aS);have hz:=(zero_of_info dy).1;have Hi:=aT (zero_of_info dy).2;have hlz:Hid ((bw.map bv).length=128):=by show _=_;simp[dI]
       unfold aggB at hz;generalize bw.map bv=Z at *;clear hKe hn hon hd1 hnow hoff hfm hok1;go_enter Tryz.func231,Tryz.ntmps231;go_wp2_with (first | ((go_at_call 158;go_call (ctk) as e w1 ⟨B,k,d,rfl,o1,d1,st1⟩);obtain rfl:k=12:=(by have e1:=o1.1;have e2:=HL.out;omega);obtain⟨gh,oh,rfl,hbl1,_⟩:=o1.rd.2.at_ (k:=0) aS;obtain⟨hcs,hblk⟩:=Ow.blk (enc:=bv) o1 (g:=gh) rfl;have hd12:=o1.cap;have hcut:∀ W,(Instr.slice 27 (.slice (some ⟨gh,oh,none⟩) 12 d) none (some (I 8)) none).run Tryz.prog W=.ok (.slice (some ⟨gh,oh,none⟩) 8 d) W:=jM cH (some ⟨gh,oh,none⟩) 12 d 8 aS;have cget:Ca 237 #[.slice (some ⟨gh,oh,none⟩) 8 d] w1 fun e w'=>e=.returned (.tuple #[I ((nn:Int)),I 0])/\w1=w':=pd;have HO1:=aT o1;have D1':=aT d1;have S1:=aT st1;have HBK:=aT hblk;have s1:=st1.size;clear o1 d1 st1 hblk) | (go_at_call 237;go_call (cget) as e w2 ⟨rfl,rfl⟩) | (go_at_call 282;go_call (HSE.out _) as e w2 ⟨rfl,rfl⟩) | fail);clear cget hcut;go_loopw [9,44] (fun v i wr=>∃ (j:Nat) (B2:Option Addr) (c2:Nat),j<=K/\i=I (j:Nat)/\v=.slice B2 (j * 128) c2/\OB wr w1.heap.size 5 B2 (j * 128) c2 (fW D1.now f j)/\be wr base p (rdK D1 j)/\Step mutD base p w1 wr/\Blk wr gh 5 hcs) (fun _ i _=>K - (intOf i).toNat)
       case atStart=>exact⟨0,none,0,aS,rfl,rfl,Ow.nil _ _ _ _,D1'.out,Step.refl _ _ _ _,HBK.out⟩
       case round=>
        obtain⟨j,B2,c2,hj,rfl,rfl,hown,hdj,hst,hbk⟩:=hrel;have hsz:=hst.size
        by_cases hlt:j<K
        · have hjI:(j:Int)<K:=aS;have haw:=D1'.out.area (HD.out.area HA.out S1.out.tch aU) hst.tch aU;have crd:=body_read hdj aS haw hoff1 hfm1 (show 1+j<m by omega);have hsl0:=HSL.out j hlt;have hnx:Hid (fW D1.now f j ++ ch D1.now ((f+(1+j):Nat):Int)=fW D1.now f (j+1)):=rfl;have HOW:=aT hown;have HDJ:=aT hdj;have HST:=aT hst;have HBK2:=aT hbk;generalize ch D1.now ((f+(1+j):Nat):Int)=S at *;have hsl:Hid ((S.map bv).length=128):=by show _=_;rw[az];exact hsl0
          have hsm:=aT (ew (l:=S));have HS0:=aT hsl0;have HSV:Hid (S.map bv=S.map bv):=rfl;unfold aggB at crd;obtain⟨SV,hSV⟩:∃ SV,S.map bv=SV:=⟨_,rfl⟩;rw[hSV] at crd hsl hsm;have HSV2:=aT hSV;have hc128:=fun (g:Nat) (W:World)=>nU (P:=Tryz.prog) (t:=205) (e:=5) (n:=128) Tryz.underlying205 bM g 0 W
          clear hown hdj hst hbk haw hsl0 hSV;go_wp2_with (first | ((go_at_call 162;go_call (crd) as e w2 ⟨rfl,d2,st2⟩);have D2:=aT d2;have O2:=aT (HDJ.out.ob HOW.out st2.tch aU);have K2:=aT (HDJ.out.blk HBK2.out st2.tch aU);have S2:=aT (HST.out.trans st2);have s2:=S2.out.size;clear d2 st2) | (refine eu rfl (x:=.tmp 11) (y:=.tmp 52) rfl rfl rfl (t:=205) (cs:=Z) (xs:=SV) (Blk.top _ rfl rfl) Hi.out hsl.out gu hsm.out ?_;intro w3 hb3 hg3 hs3;rw[dS _ _ (hlz.out.trans hsl.out.symm)] at hb3;have b3:=et ((Below.refl w2.heap.size w2).alloc aW _) hg3 br br;have O3:=O2.out.below b3 aW;have hrd:RB w3 (some ⟨w2.heap.size,0,none⟩) 128 S:=(by have:=RB.of_block (l:=S) hb3 (by rw[HSV2.out]);rw[HS0.out] at this;exact this);have D3:=aT (D2.out.below b3);have K3:=aT (K2.out.below b3 K2.out.lt);have S3:=aT (S2.out.trans (Step.of_below b3 aS));have s3:=S3.out.size;clear hb3 hg3) | (at_builtin;refine dR rfl rfl cH dg (s:=.tmp 57) (N:=(j+1) * 128) (L:=fW D1.now f (j+1)) rfl O3 rfl (k:=S) hrd.rd aS hnx.out bQ aS aS ?_;intro A5 c5 w5 hown5 hg5 hat5 hb5) | fail);have D5:=aT (D3.out.grown O3 hg5 aU);have K5:=aT (K3.out.grown hg5 (fun e=>by have:=(O3.lt _ e).1;have:=HBK.out.lt;omega));have S5:=aT (S3.out.then_below hb5 aS);go_roundw
          case rel=>first
           | exact⟨j+1,A5,c5,aS,by go_num,rfl,hown5,D5.out,S5.out,K5.out⟩
           | ((repeat apply Exists.intro);exact⟨⟨j+1,A5,c5,aS,by go_num,rfl,hown5,D5.out,S5.out,K5.out⟩,rfl⟩)
          case measure=>simp[intOf];omega
        · have hjK:K=j:=aS;subst hjK;have hcapn:=hown.cap;have hcutn:=jM cH B2 (K * 128) c2 nn aS;have hrn:=(hown.rd.take_ hKn).rb;have hrest:0<nn->fJ wr base 5 B2:=fun _ g hg=>.inr (hown.blk hg)
          have BA:=aT (show eq wr base ⟨B2,nn,c2⟩ ((fW D1.now f K).take nn) from ⟨hrn,by show nn<=maxLen;unfold maxLen;omega,hrest⟩);have hrh:RB w1 (some ⟨gh,oh+8,none⟩) 4 (L.drop 8):=by
           have:=HO1.out.rd.rb.piece 8 4 aS
           rwa [au (by rw[aH,HL.out];omega)] at this
          have HRH:=aT (hrh.same HBK.out hbk hsz);have hcuth:∀ W,(Instr.slice 27 (.slice (some ⟨gh,oh,none⟩) 12 d) (some (I 8)) none none).run Tryz.prog W=.ok (.slice (some ⟨gh,oh+8,none⟩) 4 (d - 8)) W:=fun W=>by
           have:=kF cH (some ⟨gh,oh,none⟩) 12 d 8 aS W;rw[if_neg aS] at this;exact this
          have hc4:=fun (g:Nat) (W:World)=>nU (P:=Tryz.prog) (t:=358) (e:=5) (n:=4) Tryz.underlying358 bM g 0 W
          have hsum:=nM [(fW D1.now f K).take nn];have hsumc:=fun a n c w=>sum_any a n c [(fW D1.now f K).take nn] w
          have HDJ:=aT hdj;have HST:=aT hst;obtain⟨ld,hld⟩:∃ ld,(fW D1.now f K).take nn=ld:=⟨_,rfl⟩;rw[hld] at hrn hsum hsumc BA;have HRE2:=HRE.out;rw[hld] at HRE2;have hle4:sumL ld=le4 (fv [ld]):=rfl;rw[hle4] at HRE2;generalize fv [ld]=sm at *;have HRN:=aT hrn;have HRE3:=aT HRE2;clear hown hdj hst hbk hrest hrh hrn HRE2 hle4 hld
          by_cases heq:le4 sm=L.drop 8
          · have HEQ:=aT heq;clear heq;go_wp2_with (first | (go_at_call 256;go_call (hsumc _ _ _ _ (RBs.one (dP _ _ aZ) (HRN.out.below (B:=wr.heap.size) bc aW) bQ) aU) as e w2 ⟨rfl,rfl⟩) | ((go_at_call 255;go_call (lz sm _ hsum) as e w2 ⟨rfl,hb2⟩);have B2':=bO (a:=wr) (B:=wr.heap.size) bc hb2 br;have s2:=B2'.size;clear hb2) | (refine eu rfl (x:=.tmp 13) (y:=.tmp 67) rfl rfl rfl (t:=358) (cs:=[.int .u8 0,.int .u8 0,.int .u8 0,.int .u8 0]) (xs:=(le4 sm).map bv) (Blk.top _ rfl rfl) size4 iR aZ ew ?_;intro w3 hb3 hg3 hs3;rw[dS _ _ iR] at hb3;have b3:=et (B2'.alloc s2 _) hg3 cR s2;have r3:RB w3 (some ⟨w2.heap.size,0,none⟩) 4 (le4 sm):=(by have:=RB.of_block (l:=le4 sm) hb3 rfl;rw[gV] at this;exact this);have h3:=HRH.out.below b3 aW;clear hb3 hg3) | fail);have ceq:=fun q9=>equal_any w2.heap.size 0 gh (oh+8) 4 4 (d - 8) (le4 sm) (L.drop 8) (w3.drewN q9) (r3.below (below_drewN (Below.refl w3.heap.size w3) q9) aW) (h3.below (below_drewN (Below.refl w3.heap.size w3) q9) aW) aS
            rw[am HEQ.out] at ceq;have B3:=aT b3;clear r3 h3 b3 B2';go_quiet ((go_at_call 283;exact Calls.quiet_of_same ((ceq _).mono fun e w' ⟨h1,h2⟩=>⟨h1,h2.symm⟩)));go_wp2;go_ret3;have b9:=below_drewN B3.out nq;have e9:=HRE3.out;rw[if_pos HEQ.out] at e9;rw[<- e9];exact⟨B2,nn,c2,rfl,aS,by omega,hn512,BA.out.below b9,HDJ.out.below b9,(S1.out.trans HST.out).trans (Step.of_below b9 aS)⟩
          · have HEQ:=aT heq;clear heq;go_wp2_with (first | (go_at_call 256;go_call (hsumc _ _ _ _ (RBs.one (dP _ _ aZ) (HRN.out.below (B:=wr.heap.size) bc aW) bQ) aU) as e w2 ⟨rfl,rfl⟩) | ((go_at_call 255;go_call (lz sm _ hsum) as e w2 ⟨rfl,hb2⟩);have B2':=bO (a:=wr) (B:=wr.heap.size) bc hb2 br;have s2:=B2'.size;clear hb2) | (refine eu rfl (x:=.tmp 13) (y:=.tmp 67) rfl rfl rfl (t:=358) (cs:=[.int .u8 0,.int .u8 0,.int .u8 0,.int .u8 0]) (xs:=(le4 sm).map bv) (Blk.top _ rfl rfl) size4 iR aZ ew ?_;intro w3 hb3 hg3 hs3;rw[dS _ _ iR] at hb3;have b3:=et (B2'.alloc s2 _) hg3 cR s2;have r3:RB w3 (some ⟨w2.heap.size,0,none⟩) 4 (le4 sm):=(by have:=RB.of_block (l:=le4 sm) hb3 rfl;rw[gV] at this;exact this);have h3:=HRH.out.below b3 aW;clear hb3 hg3) | fail);have ceq:=fun q9=>equal_any w2.heap.size 0 gh (oh+8) 4 4 (d - 8) (le4 sm) (L.drop 8) (w3.drewN q9) (r3.below (below_drewN (Below.refl w3.heap.size w3) q9) aW) (h3.below (below_drewN (Below.refl w3.heap.size w3) q9) aW) aS
            rw[aj HEQ.out] at ceq;have B3:=aT b3;clear r3 h3 b3 B2';go_quiet ((go_at_call 283;exact Calls.quiet_of_same ((ceq _).mono fun e w' ⟨h1,h2⟩=>⟨h1,h2.symm⟩)));go_wp2;go_ret3;have b9:=below_drewN B3.out nq;have e9:=HRE3.out;rw[if_neg HEQ.out] at e9;rw[<- e9];exact j8.no (HDJ.out.below b9) ((S1.out.trans HST.out).trans (Step.of_below b9 aS))
   · rw[if_pos hl];have HL:=aT hl;clear hon hl;go_enter Tryz.func231,Tryz.ntmps231;go_wp2_with (first | ((go_at_call 158;go_call (ctk) as e w1 ⟨B,k,d,rfl,o1,d1,st1⟩);have hk:((k:Int) != 12)=true:=(by rw[ag];have e1:=o1.1;have e2:=HL.out;omega);have D1':=aT d1;have S1:=aT st1;clear o1 d1 st1) | fail);go_ret3;exact j8.no D1'.out S1.out
 · rw[if_pos her];have hne:(er != 0)=true:=by rw[ag];exact her
   clear her hon;go_enter Tryz.func231,Tryz.ntmps231;go_wp2_with (first | ((go_at_call 158;go_call (ctk) as e w1 ⟨B,k,d,rfl,o1,d1,st1⟩);have D1':=aT d1;have S1:=aT st1;clear o1 d1 st1) | fail);go_ret3;exact j8.no D1'.out S1.out
end
theorem padL_splice (load:List UInt8)(i:Nat):splice bw 0 ((load.drop (i * 128)).take 128)=padL load i:=by
 unfold splice padL bw;rw[List.take_zero,List.nil_append,aD,List.drop_replicate]
theorem nY (h:(bK D f m ((1+i:Nat):Int) (padL load i)).2≠0):eC D f m load i (k+1)=bK D f m ((1+i:Nat):Int) (padL load i):=by
 show (if _ then _ else _)=_
 rw[if_pos h]
theorem nZ (h:(bK D f m ((1+i:Nat):Int) (padL load i)).2=0):eC D f m load i (k+1)=eC (bK D f m ((1+i:Nat):Int) (padL load i)).1 f m load (i+1) k:=by
 show (if _ then _ else _)=_
 rw[if_neg (by rw[h];simp)]
section
variable {w w':World} {base ga f m:Nat} {p:bE} {D:aX} {A:Option Addr} {n c:Nat} {load:List UInt8}
theorem fill_any (hd:be w base p D)(hs:base<=w.heap.size)(ha:bD w ga p.d f m)(hm:5<=m)(hfm:f+m<=D.many)(hl:eq w base ⟨A,n,c⟩ load)(hc:n<=c)(hcm:c<=maxLen)(hn:n<=512)(hw:D.waits.length<900000) :
 Ca 296 #[.pointer (some ⟨ga,0,none⟩),.slice A n c] w fun e w'=>e=.returned (I (dX D f m load).2)/\be w' base p (dX D f m load).1/\Step mutD base p w w':=by
 have hlen:load.length=n:=hl.1.1;have hsec:=pI n w aS;unfold dX;rw[hlen];have hK:cu n<=4:=by unfold cu;omega
 have hKn:∀ j,j<cu n->j * 128<n:=fun j hj=>by unfold cu at hj;omega
 have HKN:=aT hKn;generalize cu n=K at *;have hz:=(zero_of_info dy).1;have Hi:=aT (zero_of_info dy).2;have hlz:Hid ((bw.map bv).length=128):=by show _=_;simp[dI]
 have HD:=aT hd;have HA:=aT ha;have HL:=aT hl;unfold aggB at hz;obtain⟨Z,hZ⟩:∃ Z,bw.map bv=Z:=⟨_,rfl⟩;rw[hZ] at hz hlz;have HZ:=aT hZ;generalize hFe:eC D f m load 0 K=FK;have HFK:=aT hFe;have hc128:=fun (g:Nat) (W:World)=>nU (P:=Tryz.prog) (t:=205) (e:=5) (n:=128) Tryz.underlying205 bM g 0 W
 unfold maxLen at hcm;obtain⟨GR,hGR⟩:∃ GR,(if FK.2≠0 then FK else bH FK.1)=GR:=⟨_,rfl⟩;rw[hGR];have HGR:=aT hGR;clear hd ha hl hlen hKn hZ hFe hGR;go_enter Tryz.func296,Tryz.ntmps296;go_wp2_with (first | (go_at_call 282;go_call (hsec) as e w1 ⟨rfl,rfl⟩) | fail);go_loopw [11] (fun i wr=>∃ (j t:Nat) (Dj:aX),Hid (K=j+t)/\j<=K/\i=I (j:Nat)/\Hid (FK=eC Dj f m load j t)/\Dj.many=D.many/\Dj.waits.length<=D.waits.length+j/\be wr base p Dj/\Step mutD base p w wr) (fun i _=>K - (intOf i).toNat)
 case atStart=>exact⟨0,K,D,aT aS,aS,rfl,aT HFK.out.symm,rfl,aS,HD.out,Step.refl _ _ _ _⟩
 case round=>
  obtain⟨j,t,Dj,hjt,hjK,rfl,hfk,hmj,hwj,hdj,hst⟩:=hrel;have hsz:=hst.size;have haw:=HD.out.area HA.out hst.tch aU;have hlw:=HL.out.step HD.out hst aU
  by_cases hlt:j<K
  · have hjI:(j:Int)<K:=aS;obtain⟨t',rfl⟩:∃ t',t=t'+1:=⟨t - 1,by have:=hjt.out;omega⟩;have hjn:=HKN.out j hlt;obtain⟨A',hA'⟩:∃ A',(if c=j * 128 then A else A.map (·.add (j * 128 * 1)))=A':=⟨_,rfl⟩;have hcutL:∀ W,(Instr.slice 27 (.slice A n c) (some (I ((j:Int) * 128))) none none).run Tryz.prog W=.ok (.slice A' (n - j * 128) (c - j * 128)) W:=fun W=>by
     have h:=kF cH A n c (j * 128) aS W;rw[hA'] at h;exact h
    have hrL:RB wr A' (n - j * 128) (load.drop (j * 128)):=by
     have hll:load.length=n:=hlw.1.1;have h1:RB wr A n load:=hlw.1;refine⟨by rw[aH,hll],?_⟩;rw[<- hA',Nat.mul_one];exact (Row.cut h1.2 aS hc).congr fun i hi=>by
      unfold bx;rw[ah,ah,List.getElem?_drop]
    have hwr:IntKind.i64.wrap ((j:Int) * 128)=(j:Int) * 128:=by go_arith
    have HRL:=aT hrL;have caw:=fun {W:World} (h:be W base p Dj) (hs:base<=W.heap.size) (ha:bD W ga p.d f m)=>s_awrite h hs ha (by rw[hmj];exact hfm) ((1+j:Nat):Int) (padL load j) (nX load j) aS
    have hmw:=jm Dj f m ((1+j:Nat):Int) (padL load j);have hstop:=aT (fun h=>hfk.out.trans (nY (k:=t') h));have hgo:=aT (fun h=>hfk.out.trans (nZ (k:=t') h));have hsl:Hid (((padL load j).map bv).length=128):=by show _=_;rw[az,nX]
    have hsp:=aT (padL_splice load j);generalize padL load j=S at *;have HSV:Hid (S.map bv=S.map bv):=rfl;unfold aggB at caw;generalize bK Dj f m ((1+j:Nat):Int) S=P at *;obtain⟨Dn,z⟩:=P;have HMW:=aT hmw;have HDJ:=aT hdj;have HST:=aT hst;have HAW:=aT haw;have HHM:=aT hmj;clear hdj hst haw hlw hrL hmw hA';rw[show ((1+j:Nat):Int)=1+(j:Int) by omega] at caw;go_wp2_with fail;have bA:Below wr.heap.size wr (wr.alloc (.cells Z.toArray 205)):=(Below.refl _ _).alloc aW _;have RLD:=aT (HRL.out.below (bA.drew) aW);have HBZ:=aT (show Blk ((wr.alloc (.cells Z.toArray 205)).drew) wr.heap.size 205 (bw.map bv) from by rw[HZ.out];exact Blk.drew (Blk.top wr rfl rfl));go_region_held3 (fun _=>True) (trivial) (first | (refine lf rfl (d:=.tmp 14) (s:=.tmp 18) rfl cH dg (g:=wr.heap.size) (off:=0) (dLen:=128) (dCap:=128) (l:=bw) (k:=load.drop (j * 128)) (L:=S) rfl rfl (fun _=>rfl) HBZ.out RLD.out.rd (by rw[dI];omega) hsp.out ?_;intro w3 hb3 hg3 hs3) | fail);have b3:=et bA.drew hg3 br aW;have D3:=aT (HDJ.out.below b3);have A3:=aT (show bD w3 ga p.d f m from Blk.below HAW.out b3 (Blk.lt HAW.out));have S3:=aT (HST.out.trans (Step.of_below b3 aS));have s3:=b3.size;have hb3':=hb3;obtain⟨SV,hSV⟩:∃ SV,S.map bv=SV:=⟨_,rfl⟩;rw[hSV] at hb3' hsl caw;clear hb3 hg3 hs3 bA hSV hsp
    by_cases hz0:z=0
    · subst hz0;have hfk2:=hgo.out rfl;have HF2:=aT hfk2;clear hfk2 hstop hgo;go_wp2_with (first | (refine fi rfl (x:=.tmp 6) rfl rfl hb3' Tryz.underlying205 Hi.out hsl.out fS ?_) | ((go_at_call 200;go_call (caw D3.out aS A3.out) as e w4 ⟨rfl,d4,st4⟩);have D4:=aT d4;have S4:=aT (S3.out.trans st4);clear d4 st4) | fail);go_roundw
      case rel=>
       have m1:=HMW.out
       first
        | exact⟨j+1,t',Dn,aT (by have:=hjt.out;omega),aS,by go_num,HF2,aS,by omega,D4.out,S4.out⟩
        | ((repeat apply Exists.intro);exact⟨⟨j+1,t',Dn,aT (by have:=hjt.out;omega),aS,by go_num,HF2,aS,by omega,D4.out,S4.out⟩,rfl⟩)
      case measure=>simp[intOf];omega
    · have hfk2:=hstop.out hz0;have HF2:=aT hfk2;have HZN:=aT hz0;have hne:(z != 0)=true:=by rw[ag];exact hz0
      clear hfk2 hstop hgo hz0;go_wp2_with (first | (refine fi rfl (x:=.tmp 6) rfl rfl hb3' Tryz.underlying205 Hi.out hsl.out fS ?_) | ((go_at_call 200;go_call (caw D3.out aS A3.out) as e w4 ⟨rfl,d4,st4⟩);have D4:=aT d4;have S4:=aT (S3.out.trans st4);clear d4 st4) | fail)
      try rw[Exit.noGoto_ret]
      go_ret;have e9:=HGR.out;rw[HF2.out,if_pos HZN.out] at e9;rw[<- e9];exact⟨rfl,D4.out,S4.out⟩
  · have ht0:t=0:=by have:=hjt.out;omega
    subst ht0;have hfk2:FK=(Dj,0):=hfk.out;have HF2:=aT hfk2;have cfl:=j7 hdj aS haw;have HST:=aT hst;have hjK2:K=j:=aS;have HG:=aT (show (if FK.2≠0 then FK else bH FK.1)=bH Dj from by rw[hfk2,if_neg aZ]);have HG2:=aT (HGR.out.symm.trans HG.out);clear HG HGR;generalize bH Dj=FV at *;obtain⟨Df,z⟩:=FV;clear hfk2 hdj hst haw hlw;go_wp2_with (first | (go_at_call 116;go_call (cfl) as e w3 ⟨rfl,h3,s3⟩) | fail)
    try rw[Exit.noGoto_ret]
    go_ret;rw[HG2.out];exact⟨rfl,h3,HST.out.trans s3⟩
end
theorem lJ (load:List UInt8):(dJ load).length=12:=by unfold dJ;rw[aw,iS,sumL_len]
def recN (now:List UInt8)(f:Nat)(kind:Int)(n:Nat):Prop:=recB (ch now ((f+n:Nat):Int)) kind n=true
structure ScanIs (now:List UInt8)(f:Nat)(kind:Int)(k:Nat)(s:Bool × Nat × List Int):Prop where
 yes:s.1=true->s.2.1=k
 no:s.1=false->s.2.1<k/\¬ recN now f kind s.2.1
 recs:∀ n,n<s.2.1->recN now f kind n
 le:s.2.1<=k
 dirty:∀ x ∈ s.2.2,∃ n:Nat,x=(n:Int)/\s.2.1<=n/\n<k
 all:∀ n:Nat,s.2.1<=n->n<k->ch now ((f+n:Nat):Int)≠bw->(n:Int) ∈ s.2.2
theorem scan_is (now:List UInt8)(f:Nat)(kind:Int):∀ k,ScanIs now f kind k (bZ now f kind k):=by
 intro k
 induction k with
 | zero=>exact⟨fun _=>rfl,fun h=>(by cases h),fun n h=>absurd h (by show ¬ n<0;omega),Nat.le_refl _,fun x h=>(by cases h),fun n _ h=>absurd h aS⟩
 | succ k ih=>
   unfold bZ;generalize bZ now f kind k=s at *;obtain⟨o,nx,dl⟩:=s;obtain⟨h1,h2,h3,h4,h5,h6⟩:=ih;simp only at h1 h2 h3 h4 h5 h6 ⊢
   split
   · rename_i hc;have:=h1 hc.1;subst this;refine⟨fun _=>rfl,fun h=>(by cases h),fun n hn=>?_,Nat.le_refl _,fun x hx=>?_,fun n hn hk hz=>?_⟩
     · simp only at hn;rcases ay n nx with q | q
       · exact h3 n q
       · have:n=nx:=aS;subst this;exact hc.2
     · obtain⟨n,e,q1,q2⟩:=h5 x hx;omega
     · simp only at hn;omega
   · rename_i hc;have hlt:nx<k+1:=aS;refine⟨fun h=>(by cases h),fun _=>⟨hlt,?_⟩,h3,by simp only;omega,fun x hx=>?_,fun n hn hk hz=>?_⟩
     · simp only
       cases o with
       | false=>exact (h2 rfl).2
       | true=>
         have:=h1 rfl;subst this;exact fun h=>hc ⟨rfl,h⟩
     · simp only at hx
       split at hx
       · obtain⟨n,e,q1,q2⟩:=h5 x hx;exact⟨n,e,q1,aS⟩
       · rcases List.mem_append.1 hx with q | q
         · obtain⟨n,e,q1,q2⟩:=h5 x q;exact⟨n,e,q1,aS⟩
         · have:x=(k:Int):=by simpa using q
           exact⟨k,this,by simp only;omega,aS⟩
     · simp only at hn ⊢;rcases ay n k with q | q
       · have:=h6 n hn q hz
         split
         · exact this
         · exact List.mem_append_left _ this
       · have:n=k:=aS;subst this;rw[if_neg hz];exact List.mem_append_right _ aZ
theorem secOf_part {n many:Nat}(hl:l.length=many * 128)(hb:b.length<=128)(hn:n<many)(hk:k<many):ch (splice l (n * 128) b) (k:Int)=if k=n then splice (ch l (k:Int)) 0 b else ch l (k:Int):=by
 have h1:(ch (splice l (n * 128) b) (k:Int)).length=128:=iC (s:=many) (by rw[ji kL,hl]) aS aS;have h2:(ch l (k:Int)).length=128:=iC (s:=many) hl aS aS
 split
 · rename_i e;subst e;have h3:(splice (ch l (k:Int)) 0 b).length=128:=by rw[ji aS,h2]
   refine byte_ext aS (fun i hi=>?_);rw[jY aS,jl kL,jl aS]
   by_cases q:i<b.length
   · rw[if_pos aS,if_pos aS,Nat.add_sub_cancel_left,Nat.sub_zero]
   · rw[if_neg aS,if_neg aS,jY aS]
 · rename_i e;refine byte_ext aS (fun i hi=>?_);rw[jY aS,jY aS,jl kL,if_neg aS]
theorem crash_closed (h:D.Ok)(cs:List UInt8)(P:Nat->List UInt8->Prop)(h0:∀ s,s<D.many->P s (ch D.kept (s:Int)))
 (hp:∀ p ∈ D.waits,∀ (S:List UInt8) (c:Nat),c<=128->S.length=128->P p.1 S->P p.1 (splice S 0 (p.2.take c))):∀ s,s<D.many->P s (ch (fP D cs).kept (s:Int)):=by
 have key:∀ k,k<=D.waits.length->∀ s,s<D.many->P s (ch (fV D.waits cs (D.kept,D.inuse) k).1 (s:Int)):=by
  intro k
  induction k with
  | zero=>intro _ s hs;exact h0 s hs
  | succ k ih=>
    intro hk s hs;obtain⟨p1,p2⟩:=lA h (show k<D.waits.length by omega);have hl:=(pE h cs k aS).1;have hmem:cY D.waits k ∈ D.waits:=by unfold cY;rw[ah,ap aS];exact List.getElem_mem _
    show P s (ch (splice (fV D.waits cs (D.kept,D.inuse) k).1 ((cY D.waits k).1 * 128) ((cY D.waits k).2.take (min (bx cs k) 128))) (s:Int))
    rw[secOf_part hl (by rw[aA];omega) p1 hs]
    split
    · rename_i e;subst e;exact hp _ hmem _ _ aS (iC (s:=D.many) hl aS aS) (ih aS _ hs)
    · exact ih aS s hs
 exact key _ (Nat.min_le_left _ _)
structure Fit (D:aX):Prop where
 ok:D.Ok
 off:D.off=false
 room:D.room=D.many
 now:D.now=(fk D.waits (D.kept,D.inuse) D.waits.length).1
 might:D.might=(fk D.waits (D.kept,D.inuse) D.waits.length).2
theorem Calm.fit (h:Calm D):Fit D:=⟨h.ok,h.off,h.room,h.now,h.might⟩
section
variable {D:aX}
theorem Fit.full (h:Fit D)(h0:0<=n)(h1:n<D.many):fullB D n=false:=by
 unfold fullB
 cases hb:D.might.getD n.toNat false with
 | true=>rfl
 | false=>
   have:=trues_all (by rw[h.ok.might];omega) hb;rw[h.ok.might] at this;have hr:=h.room;have:(D.room - (fj D.might:Nat) == 0)=false:=by rw[af];omega
   rw[this];rfl
theorem Fit.may (h:Fit D)(n:Int):mayV D n=if n<0\/(D.many:Int)<=n then 51 else 0:=by
 unfold mayV;rw[h.off];simp
theorem Fit.write_in (h:Fit D)(h0:0<=n)(h1:n<D.many)(b:List UInt8):eL D n b=(ey (putD D n b) 2,if D.cut=0 then 50 else 0):=by
 unfold eL;have hm:mayV D n=0:=by rw[h.may,if_neg aS]
 rw[if_neg aS,if_neg (by rw[h.full h0 h1];simp)]
theorem Fit.put (h:Fit D)(h0:0<=n)(h1:n<D.many)(hb:b.length=128)(hw:D.waits.length<1000000)(hc:D.cut≠0):Fit (ey (putD D n b) 2):=by
 have hok:=mi (putD_ok h.ok h0 h1 hb hw) 2;refine⟨hok,?_,h.room,?_,?_⟩
 · show (D.cut == 0)=false
   rw[af];exact hc
 · show splice D.now (n.toNat * 128) b=(fk (D.waits ++ [(n.toNat,b)]) (D.kept,D.inuse) (D.waits ++ [(n.toNat,b)]).length).1
   rw[keepK_app,<- h.now]
 · show D.might.set n.toNat true=(fk (D.waits ++ [(n.toNat,b)]) (D.kept,D.inuse) (D.waits ++ [(n.toNat,b)]).length).2
   rw[keepK_app,<- h.might]
theorem Fit.put_now (h:Fit D)(h0:0<=n)(h1:n<D.many)(hb:b.length=128)(hk:k<D.many):ch (ey (putD D n b) 2).now (k:Int)=if n=(k:Int) then b else ch D.now (k:Int):=by
 show ch (splice D.now (n.toNat * 128) b) (k:Int)=_
 rw[secOf_splice h.ok.now hb aS hk]
 by_cases e:k=n.toNat
 · rw[if_pos e,if_pos aS]
 · rw[if_neg e,if_neg aS]
theorem Fit.ops (h:Fit D)(o:List Int):Fit { D with ops:=o }:=⟨⟨h.ok.many0,h.ok.many1,h.ok.kept,h.ok.now,h.ok.inuse,h.ok.might,h.ok.waits,h.ok.room,h.ok.cut,h.ok.few⟩,h.off,h.room,h.now,h.might⟩
theorem Fit.flush_ok (h:Fit D)(hc:D.cut≠0):bH D=(jj (ey D 3),0)/\Fit (jj (ey D 3))/\(jj (ey D 3)).kept=D.now/\(jj (ey D 3)).now=D.now:=by
 have hm:mayV D 0=0:=by rw[h.may,if_neg (by have:=h.ok.many0;omega)]
 refine⟨by unfold bH;rw[if_neg aS,if_neg hc],⟨flushD_ok (mi h.ok 3),?_,h.room,?_,?_⟩,h.now.symm,rfl⟩
 · show (D.cut == 0)=false
   rw[af];exact hc
 · show D.now=_;rw[h.now];rfl
 · show D.might=_;rw[h.might];rfl
theorem Fit.flush_cut (h:Fit D)(hc:D.cut=0):bH D=(ey D 3,50):=by
 have hm:mayV D 0=0:=by rw[h.may,if_neg (by have:=h.ok.many0;omega)]
 unfold bH;rw[if_neg aS,if_pos hc]
end
theorem rdK_fit (h:Fit D)(k:Nat):Fit (rdK D k)/\(rdK D k).many=D.many/\(rdK D k).waits=D.waits/\(rdK D k).now=D.now/\(rdK D k).kept=D.kept:=by
 obtain⟨o,e⟩:=gO D k;rw[e];exact⟨h.ops o,rfl,rfl,rfl,rfl⟩
theorem crash_fit (h:D.Ok)(hr:D.room=D.many)(cs:List UInt8):Calm (fP D cs)/\(fP D cs).waits=[]/\(fP D cs).many=D.many/\(fP D cs).now=(fP D cs).kept :=
 ⟨⟨crashV_ok h cs,rfl,rfl,hr,rfl,rfl⟩,rfl,rfl,rfl⟩
theorem Fit.cutTo (h:Fit D)(c:Int)(h0:-1<=c)(h1:c<=9223372036854775807):Fit { D with cut:=c }:=⟨⟨h.ok.many0,h.ok.many1,h.ok.kept,h.ok.now,h.ok.inuse,h.ok.might,h.ok.waits,h.ok.room,⟨h0,h1⟩,h.ok.few⟩,h.off,h.room,h.now,h.might⟩
theorem get_fit {nx n:Nat}(h:D.off=false)(hfm:f+m<=D.many)(hnm:nx<=m)(hn:n<nx)(hr:recN D.now f kind n) :
 eX D f m kind nx (n:Int)=(dZ D,fe (ch D.now ((f+n:Nat):Int)),0):=by
 have hon:=kU h hfm (show n<m by omega);unfold recN recB at hr;rw[av,aq] at hr;unfold eX;rw[if_neg aS];have e:cP D f m (n:Int) kind=((n:Int),fe (ch D.now ((f+n:Nat):Int)),0):=by
  unfold cP;rw[hon,if_neg aZ]
  show eH _ kind=_
  unfold eH;rw[if_pos hr.1,hr.2]
 rw[e,hon,if_neg aZ,if_neg aZ]
theorem headN_of (hl:load.length<=512):fw (dJ load)=(load.length:Int)/\(dJ load).drop 8=sumL load:=by
 have h8:(putL (un load.length)).length=8:=iS _;refine⟨?_,?_⟩
 · unfold fw dJ;rw[List.take_append_of_le_length aS,au aS,ny _ (un_lt _),sg_un aS aS]
 · unfold dJ;rw[<- h8,List.drop_left]
theorem padL_of (hi:i<cu load.length):padL load i=((load ++ List.replicate (cu load.length * 128 - load.length) 0).drop (i * 128)).take 128:=by
 have h1:i * 128<load.length:=by unfold cu at hi;omega
 have h2:load.length<=cu load.length * 128:=by unfold cu;omega
 unfold padL;rw[List.drop_append_of_le_length aS,List.take_append]
 congr 1
 rw[List.take_replicate,aA,aH]
 congr 1
 omega
def laid (N:Nat->List UInt8)(f:Nat)(load:List UInt8)(k:Nat):Nat->List UInt8:=fun s=>if f+1<=s/\s<f+1+k then padL load (s - (f+1)) else N s
def gZ (K:Nat->List UInt8)(f:Nat):Nat->List UInt8:=fun s=>if s=f then bw else K s
theorem n7 {S:List UInt8}(h:bx S 0=0):eV S 2=false:=by
 cases ho:eV S 2 with
 | false=>rfl
 | true=>have:=(mh ho).1;omega
theorem not_head127 {S:List UInt8}(h:bx S 127=0):eV S 2=false:=by
 cases ho:eV S 2 with
 | false=>rfl
 | true=>have:=(mh ho).2.1;omega
def othS (s:SlV3):Nat:=if s.now=0 then 1 else 0
section
variable {D E:aX} {s:SlV3} {n:Nat}
theorem othS_le (s:SlV3):othS s<=1:=by unfold othS;split <;> omega
end
