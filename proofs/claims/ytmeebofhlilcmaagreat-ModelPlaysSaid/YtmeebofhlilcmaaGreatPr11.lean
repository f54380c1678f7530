/- Parts. -/
import Derived.Test.YtmeebofhlilcmaaGreatPr10
set_option linter.unusedVariables false
set_option linter.unusedSimpArgs false
set_option maxRecDepth 100000
set_option maxHeartbeats 0
namespace Go.Proofs.YtmeebofhlilcmaaGreat
variable {α:Type} {w w' w1:World} {base n f m ga:Nat} {p:bE} {D:aX} {kind:Int} {L:List UInt8}
open Go.RowKit
theorem be.grown {enc:α->Value}{b c:Nat}{e:TypeId}{B:Option Addr}{l:List α}(h:be w base p D)(ho:Ow enc w b e B n c l)(hg:w.grownBy w' (B.map (·.block)))(ht:e ∉ 4 :: mutD):be w' base p D:=by
 obtain⟨A,a,h⟩:=h;refine⟨A,a,h.keep (F:=fun g=>B.map (·.block)=some g) (Keep.of_grown hg (fun g e=>e)) (fun g hf he=>?_)⟩;rcases ho.2.2 with ⟨hv,_⟩ | ⟨g',cap,cur,hv,_,hh,_⟩
 · injection hv with hv;subst hv;cases he
 · injection hv with hv;subst hv;simp only[Option.map_some,Option.some.injEq] at he;subst he;rcases h.foot_ty (t:=e) (cs:=cur.toList) (by unfold Blk;rw[hh]) hf with q | q | q | q | q
   all_goals exact ht (by rw[q];decide)
theorem Step.then_below {M:List TypeId}{w2:World}(h:Step M base p w w1)(hb:Below w.heap.size w1 w2)(hs:base<=w.heap.size):Step M base p w w2:=by
 obtain⟨h1,F,hF,tF⟩:=h;refine⟨h1.trans (hb.mono hs),F,⟨hb.os.trans hF.os,hb.tape.trans hF.tape,hb.output.trans hF.output,ae hF.size hb.size,fun k hk hn=>(hb.block k hk).trans (hF.block k hk hn)⟩,tF⟩
def iF (w w':World)(gj:Nat):Prop:=∀ g cs,g≠gj->Blk w g 363 cs->Blk w' g 363 cs
def rdK (D:aX):Nat->aX
 | 0=>D
 | k+1=>dZ (rdK D k)
theorem gO (D:aX):∀ k,∃ o,rdK D k={ D with ops:=o }:=by
 intro k
 induction k with
 | zero=>exact⟨D.ops,rfl⟩
 | succ k ih=>obtain⟨o,e⟩:=ih;exact⟨mAdd o 1 1,by show dZ (rdK D k)=_;rw[e];rfl⟩
def recB (S:List UInt8)(kind:Int)(k:Nat):Bool:=eV S kind && decide (sg (ef S)=(k:Int))
def bZ (now:List UInt8)(f:Nat)(kind:Int):Nat->Bool × Nat × List Int
 | 0=>(true,0,[])
 | k+1=>
   if (bZ now f kind k).1=true/\recB (ch now ((f+k:Nat):Int)) kind k=true then (true,(bZ now f kind k).2.1+1,(bZ now f kind k).2.2)
   else (false,(bZ now f kind k).2.1,if ch now ((f+k:Nat):Int)=bw then (bZ now f kind k).2.2 else (bZ now f kind k).2.2 ++ [(k:Int)])
theorem mn (now:List UInt8)(f:Nat)(kind:Int):∀ k,(bZ now f kind k).2.1<=k/\(bZ now f kind k).2.2.length<=k:=by
 intro k
 induction k with
 | zero=>exact⟨Nat.le_refl _,Nat.le_refl _⟩
 | succ k ih=>
   unfold bZ
   split
   · simp only;omega
   · simp only
     split
     · omega
     · rw[aw,aJ];omega
section
variable {w w':World} {base ga gj f m:Nat} {kind:Int} {p:bE} {D:aX}
theorem kU (h:D.off=false){k:Nat}(hfm:f+m<=D.many)(hk:k<m):bN D f m (k:Int)=(dZ D,ch D.now ((f+k:Nat):Int),0):=by
 unfold bN eW;have hm:mayV D ((f:Int)+k)=0:=by unfold mayV;rw[h];simp;omega
 rw[if_neg aS,hm,if_neg aZ];rw[show ((f:Int)+(k:Int))=((f+k:Nat):Int) by omega]
theorem jread_on (h:dc w gj ga kind 0)(hd:be w base p D)(hs:base<=w.heap.size)(hg:base<=gj)(ha:bD w ga p.d f m)(hfm:f+m<=D.many)(hoff:D.off=false)(hok:D.Ok) :
 Ca 293 #[.pointer (some ⟨gj,0,none⟩)] w fun e w'=>∃ B N c,e=.returned (.tuple #[.slice B N c,I 0])/\Ow iv w' w.heap.size 3 B N c (bZ D.now f kind m).2.2 /\
  be w' base p (rdK D m)/\dc w' gj ga kind (bZ D.now f kind m).2.1/\Step mutJ base p w w'/\iF w w' gj:=by
 have c0:=h.c0;have hmany:=iE ha;have hz:=(zero_of_info dy).1;have Hi:=aT (zero_of_info dy).2;have hlz:Hid ((bw.map bv).length=128):=by show _=_;simp[dI]
 have hm4:f+m<=4096:=by have:=hok.many1;omega
 have HD:=aT hd;have HJ:=aT h;have HA:=aT ha;have HOK:=aT hok;clear h hd ha hok;unfold aggB at *;generalize hZ:bw.map bv=Z at *;have HZ:=aT hZ;clear hZ;go_enter Tryz.func293,Tryz.ntmps293;go_wp2_with fail;go_step3;go_wp2_with fail;go_step3;go_wp2_with (first | (go_at_call 113;go_call (hmany) as e w1 ⟨rfl,rfl⟩) | fail);go_loopw [4,5,6,7,8,9,10,11,17] (fun v o _ _ _ _ _ _ i wr=>∃ (k:Nat) (B:Option Addr) (N c:Nat),k<=m/\i=I (k:Nat)/\o=.bool (bZ D.now f kind k).1/\v=.slice B N c/\Ow iv wr w.heap.size 3 B N c (bZ D.now f kind k).2.2 /\
  be wr base p (rdK D k)/\dc wr gj ga kind (bZ D.now f kind k).2.1/\Step mutJ base p w wr/\iF w wr gj) (fun _ _ _ _ _ _ _ _ i _=>m - (intOf i).toNat)
 case atStart=>exact⟨0,none,0,0,aS,rfl,rfl,rfl,Ow.nil _ _ _ _,HD.out,HJ.out,Step.refl _ _ _ _,fun _ _ _ h=>h⟩
 case round=>
  obtain⟨k,B,N,c,hk,rfl,rfl,rfl,hown,hdk,hjk,hst,hot⟩:=hrel
  by_cases hlt:k<m
  · have hak:=HD.out.area HA.out hst.tch aU;obtain⟨o,eo⟩:=gO D k;have hon:bN (rdK D k) f m (k:Int)=(rdK D (k+1),ch D.now ((f+k:Nat):Int),0):=by
     rw[kU (by rw[eo];exact hoff) kK hlt]
     show (rdK D (k+1),ch (rdK D k).now _,(0:Int))=_
     rw[eo]
    have hsz:=hst.size;have hrd:=lD hdk aS hak kK (k:Int);rw[hon] at hrd;simp only at hrd;have hsl0:(ch D.now ((f+k:Nat):Int)).length=128:=iC HOK.out.now aS aS;have hop:=fun w=>open_v (ch D.now ((f+k:Nat):Int)) kind w hsl0
    have hbl:=fun w=>blank_any (ch D.now ((f+k:Nat):Int)) w hsl0
    have hnx:Hid (bZ D.now f kind (k+1)=if (bZ D.now f kind k).1=true/\recB (ch D.now ((f+k:Nat):Int)) kind k=true then (true,(bZ D.now f kind k).2.1+1,(bZ D.now f kind k).2.2) else (false,(bZ D.now f kind k).2.1,if ch D.now ((f+k:Nat):Int)=bw then (bZ D.now f kind k).2.2 else (bZ D.now f kind k).2.2 ++ [(k:Int)])):=rfl;have hle:=mn D.now f kind k;have hNl:=hown.1;generalize bZ D.now f kind k=sc at *;obtain⟨op,nx,dl⟩:=sc;simp only at hown hjk hnx hle hNl;generalize ch D.now ((f+k:Nat):Int)=S at *;have hsl:Hid ((S.map bv).length=128):=by show _=_;rw[az];exact hsl0
    have hsm:=aT (ew (l:=S));have HDk:=aT hdk;have HJk:=aT hjk;have Hown:=aT hown;have Hot:=aT hot;clear hot;have y0:=hjk.c0;have hkI:(k:Int)<m:=aS;have hnum:Hid ((eH S kind).1=if eV S kind then sg (ef S) else 0):=by show _=_;unfold eH;split <;> rfl
    have herr:Hid ((eH S kind).2.2=if eV S kind then 0 else 53):=by show _=_;unfold eH;split <;> rfl
    have hrec:Hid (recB S kind k=(eV S kind && decide (sg (ef S)=(k:Int)))):=rfl;have HSV:Hid (S.map bv=S.map bv):=rfl;unfold aggB at hrd hop hbl;generalize S.map bv=SV at *;generalize eH S kind=OV at *;obtain⟨Nn,L,er⟩:=OV;simp only at hnum herr hop;clear hdk hjk hown hsl0 hon hak eo;go_wp2_with (first | ((go_at_call 162;go_call (hrd) as e w2 ⟨rfl,h2,s2⟩);have HJ2:=aT (show dc w2 gj ga kind nx from HDk.out.blk HJk.out s2.tch aU);have H2:=aT h2;have o2:=aT (HDk.out.ow Hown.out s2.tch aU);clear h2) | (refine eu rfl (x:=.tmp 7) (y:=.tmp 27) rfl rfl rfl (t:=205) (cs:=Z) (xs:=SV) (Blk.top _ rfl rfl) Hi.out hsl.out gu hsm.out ?_;intro w3 hb3 hg3 hs3;rw[dS _ _ (hlz.out.trans hsl.out.symm)] at hb3;have b3:=et ((Below.refl w2.heap.size w2).alloc aW _) hg3 br br;have HJ3:=aT (show dc w3 gj ga kind nx from Blk.below HJ2.out b3 HJ2.out.lt);have H3:=aT (H2.out.below b3);have o3:=aT (o2.out.below b3 aW);have S3:=hst.trans ((s2.mono (fun _ e=>aB _ e)).trans (Step.of_below b3 lm));have ot3:iF w w3 gj:=(fun g cs hne hb=>(by have q:=HDk.out.blk (Hot.out g cs hne hb) s2.tch aU;exact q.below b3 q.lt))) | fail);have r3:=Blk.range (o:=0) (n:=128) (xs:=SV) hb3 fS;have y31:=HJ3.out.c1;refine wp_region_held_drew (S:=fun w'=>w'.cell? ⟨gj,1,none⟩=some (I kind)/\w'.rangeAt w2.heap.size 0 SV) bM ⟨y31,r3⟩ (fun hHeld=>?_);refine wpAnyH_take (i:=0) (v:=_) rfl bT bT bT (fun _ _ _ h=>h) (yieldsIf_load_mid (by rfl) _ _ rfl _ _ rfl SV _ (fun _ h=>h.2) Tryz.underlying205 rfl (by rw[hsl.out];exact Hi.out)) gU ?_;refine bJ ?_;refine aV 1 ?_;refine aV 2 ?_;refine aV 3 ?_;refine aV 4 ?_ (hy:=Or.inl ⟨by rfl,dh⟩);refine bR 5 (fun K hK=>?_);go_simp
    (go_at_call 163;go_call (hop _) as e w4 ⟨B4,k4,d4,rfl,o4,hb4⟩)
    have b4:Below w3.heap.size w3 w4:=bO bc hb4 br;have hb4b:=Blk.below hb3 b4 (Blk.lt hb3);have hj4:dc w4 gj ga kind nx:=Blk.below HJ3.out b4 HJ3.out.lt;have H4:=aT (H3.out.below b4);have o4':=aT (o3.out.below b4 aW);have sz3:base<=w3.heap.size:=by have:=S3.size;omega
    have S4:=S3.trans (Step.of_below b4 sz3);have ot4:Hid (iF w w4 gj):=fun g cs hne hb=>(ot3 g cs hne hb).below b4 (ot3 g cs hne hb).lt
    clear ot3;have y41:=hj4.c1;have y42:=hj4.c2;have y4f:=Blk.frozen hj4 2;have HJ4:=aT hj4;refine hK.out _ _ (⟨y41,Blk.range (o:=0) (n:=128) (xs:=SV) hb4b fS⟩) (fun hHeld=>?_);clear hK K;refine bJ ?_;refine aV 6 ?_;refine aV 7 ?_;refine aV 8 ?_;refine aV 9 ?_;refine aV 10 ?_;refine aV 11 ?_;refine aV 12 ?_;refine wpAnyH_done bT ?_ _
    cases op with
    | false=>
      by_cases hS0:S=bw
      · have hbl':∀ w,Ca 164 #[.agg SV.toArray] w fun e w'=>e=.returned (.bool true)/\Below w.heap.size w w':=fun w=>(hbl w).mono fun e w' ⟨q1,q2⟩=>⟨by rw[q1,am hS0],q2⟩
        have HN:Hid (bZ D.now f kind (k+1)=(false,nx,dl)):=by show _=_;rw[hnx.out,if_neg aZ,if_pos hS0]
        clear hbl hS0;go_wp2_with (first | (refine fi rfl (x:=.tmp 7) rfl rfl hb4b Tryz.underlying205 Hi.out hsl.out fS ?_) | (go_at_call 164;go_call (hbl' _) as e w5 ⟨rfl,hb5⟩) | fail);go_roundw
        case rel=>
         have f1:=o4'.out.below hb5 aW;have f2:=H4.out.below hb5;have f3:dc w5 gj ga kind nx:=Blk.below HJ4.out hb5 HJ4.out.lt;have f4:=S4.trans (Step.of_below hb5 (by have:=S4.size;omega));have e1:Value.bool false=.bool (bZ D.now f kind (k+1)).1:=by rw[HN.out]
         have e2:Ow iv w5 w.heap.size 3 B N c (bZ D.now f kind (k+1)).2.2:=by rw[HN.out];exact f1
         have e3:dc w5 gj ga kind (bZ D.now f kind (k+1)).2.1:=by rw[HN.out];exact f3
         have f5:iF w w5 gj:=fun g cs hne hb=>(ot4.out g cs hne hb).below hb5 (ot4.out g cs hne hb).lt
         first
          | exact⟨k+1,B,N,c,aS,by go_num,e1,rfl,e2,f2,e3,f4,f5⟩
          | ((repeat apply Exists.intro);exact⟨⟨k+1,B,N,c,aS,by go_num,e1,rfl,e2,f2,e3,f4,f5⟩,rfl⟩)
        case measure=>simp[intOf];omega
      · have hbl':∀ w,Ca 164 #[.agg SV.toArray] w fun e w'=>e=.returned (.bool false)/\Below w.heap.size w w':=fun w=>(hbl w).mono fun e w' ⟨q1,q2⟩=>⟨by rw[q1,aj hS0],q2⟩
        have HN:Hid (bZ D.now f kind (k+1)=(false,nx,dl ++ [(k:Int)])):=by show _=_;rw[hnx.out,if_neg aZ,if_neg hS0]
        have hszw:=S4.size;clear hbl hS0;go_wp2_with (first | (refine fi rfl (x:=.tmp 7) rfl rfl hb4b Tryz.underlying205 Hi.out hsl.out fS ?_) | ((go_at_call 164;go_call (hbl' _) as e w5 ⟨rfl,hb5⟩);have o5:=o4'.out.below hb5 aW;have b5s:=hb5.size) | (at_builtin;refine dR rfl rfl fF gq (s:=.tmp 62) (N:=N+1) (L:=dl ++ [(k:Int)]) rfl (o5.below (b:=w5.heap.size) bc br) rfl (k:=[(k:Int)]) (Rd.of_block (l:=[(k:Int)]) (dP _ _ aZ) rfl) rfl (rfl) bQ aS br ?_;intro A6 c6 w6 hown6 hg6 hat6 hb6) | fail);go_roundw
        case rel=>
         have o5a:=o5.below (b:=w5.heap.size) ((Below.refl w5.heap.size w5).alloc aW (.cells #[I (k:Int)] 3)) aW;have bA:Below w5.heap.size w5 (w5.alloc (.cells #[I (k:Int)] 3)):=(Below.refl w5.heap.size w5).alloc aW _;have f2:=((H4.out.below hb5).below bA).grown o5a hg6 aU;have f3:dc w6 gj ga kind nx:=Blk.grown (Blk.below (Blk.below HJ4.out hb5 HJ4.out.lt) bA kI) hg6 (o5a.ne_ (Blk.below (Blk.below HJ4.out hb5 HJ4.out.lt) bA kI) aU);have f4:=((S4.trans (Step.of_below hb5 aS)).trans (Step.of_below bA aS)).then_below hb6 hs;have e1:Value.bool false=.bool (bZ D.now f kind (k+1)).1:=by rw[HN.out]
         have e2:Ow iv w6 w.heap.size 3 A6 (N+1) c6 (bZ D.now f kind (k+1)).2.2:=by rw[HN.out];exact hown6
         have e3:dc w6 gj ga kind (bZ D.now f kind (k+1)).2.1:=by rw[HN.out];exact f3
         have f5:iF w w6 gj:=fun g cs hne hb=>(by
          have q:=((ot4.out g cs hne hb).below hb5 (ot4.out g cs hne hb).lt);have q2:=q.below bA q.lt;exact Blk.grown q2 hg6 (o5a.ne_ q2 aU))
         first
          | exact⟨k+1,A6,N+1,c6,aS,by go_num,e1,rfl,e2,f2,e3,f4,f5⟩
          | ((repeat apply Exists.intro);exact⟨⟨k+1,A6,N+1,c6,aS,by go_num,e1,rfl,e2,f2,e3,f4,f5⟩,rfl⟩)
        case measure=>simp[intOf];omega
    | true=>
      cases ho:eV S kind with
      | false=>
        have her:er=53:=by rw[herr.out,ho];rfl
        subst her
        by_cases hS0:S=bw
        · have hbl':∀ w,Ca 164 #[.agg SV.toArray] w fun e w'=>e=.returned (.bool true)/\Below w.heap.size w w':=fun w=>(hbl w).mono fun e w' ⟨q1,q2⟩=>⟨by rw[q1,am hS0],q2⟩
          have HN:Hid (bZ D.now f kind (k+1)=(false,nx,dl)):=by show _=_;rw[hnx.out,if_neg (by rw[hrec.out,ho];simp),if_pos hS0]
          clear hbl hS0;go_wp2_with (first | (refine fi rfl (x:=.tmp 7) rfl rfl hb4b Tryz.underlying205 Hi.out hsl.out fS ?_) | (go_at_call 164;go_call (hbl' _) as e w5 ⟨rfl,hb5⟩) | fail);go_roundw
          case rel=>
           have f1:=o4'.out.below hb5 aW;have f2:=H4.out.below hb5;have f3:dc w5 gj ga kind nx:=Blk.below HJ4.out hb5 HJ4.out.lt;have f4:=S4.trans (Step.of_below hb5 (by have:=S4.size;omega));have e1:Value.bool false=.bool (bZ D.now f kind (k+1)).1:=by rw[HN.out]
           have e2:Ow iv w5 w.heap.size 3 B N c (bZ D.now f kind (k+1)).2.2:=by rw[HN.out];exact f1
           have e3:dc w5 gj ga kind (bZ D.now f kind (k+1)).2.1:=by rw[HN.out];exact f3
           have f5:iF w w5 gj:=fun g cs hne hb=>(ot4.out g cs hne hb).below hb5 (ot4.out g cs hne hb).lt
           first
            | exact⟨k+1,B,N,c,aS,by go_num,e1,rfl,e2,f2,e3,f4,f5⟩
            | ((repeat apply Exists.intro);exact⟨⟨k+1,B,N,c,aS,by go_num,e1,rfl,e2,f2,e3,f4,f5⟩,rfl⟩)
          case measure=>simp[intOf];omega
        · have hbl':∀ w,Ca 164 #[.agg SV.toArray] w fun e w'=>e=.returned (.bool false)/\Below w.heap.size w w':=fun w=>(hbl w).mono fun e w' ⟨q1,q2⟩=>⟨by rw[q1,aj hS0],q2⟩
          have HN:Hid (bZ D.now f kind (k+1)=(false,nx,dl ++ [(k:Int)])):=by show _=_;rw[hnx.out,if_neg (by rw[hrec.out,ho];simp),if_neg hS0]
          have hszw:=S4.size;clear hbl hS0;go_wp2_with (first | (refine fi rfl (x:=.tmp 7) rfl rfl hb4b Tryz.underlying205 Hi.out hsl.out fS ?_) | ((go_at_call 164;go_call (hbl' _) as e w5 ⟨rfl,hb5⟩);have o5:=o4'.out.below hb5 aW;have b5s:=hb5.size) | (at_builtin;refine dR rfl rfl fF gq (s:=.tmp 62) (N:=N+1) (L:=dl ++ [(k:Int)]) rfl (o5.below (b:=w5.heap.size) bc br) rfl (k:=[(k:Int)]) (Rd.of_block (l:=[(k:Int)]) (dP _ _ aZ) rfl) rfl (rfl) bQ aS br ?_;intro A6 c6 w6 hown6 hg6 hat6 hb6) | fail);go_roundw
          case rel=>
           have o5a:=o5.below (b:=w5.heap.size) ((Below.refl w5.heap.size w5).alloc aW (.cells #[I (k:Int)] 3)) aW;have bA:Below w5.heap.size w5 (w5.alloc (.cells #[I (k:Int)] 3)):=(Below.refl w5.heap.size w5).alloc aW _;have f2:=((H4.out.below hb5).below bA).grown o5a hg6 aU;have f3:dc w6 gj ga kind nx:=Blk.grown (Blk.below (Blk.below HJ4.out hb5 HJ4.out.lt) bA kI) hg6 (o5a.ne_ (Blk.below (Blk.below HJ4.out hb5 HJ4.out.lt) bA kI) aU);have f4:=((S4.trans (Step.of_below hb5 aS)).trans (Step.of_below bA aS)).then_below hb6 hs;have e1:Value.bool false=.bool (bZ D.now f kind (k+1)).1:=by rw[HN.out]
           have e2:Ow iv w6 w.heap.size 3 A6 (N+1) c6 (bZ D.now f kind (k+1)).2.2:=by rw[HN.out];exact hown6
           have e3:dc w6 gj ga kind (bZ D.now f kind (k+1)).2.1:=by rw[HN.out];exact f3
           have f5:iF w w6 gj:=fun g cs hne hb=>(by
            have q:=((ot4.out g cs hne hb).below hb5 (ot4.out g cs hne hb).lt);have q2:=q.below bA q.lt;exact Blk.grown q2 hg6 (o5a.ne_ q2 aU))
           first
            | exact⟨k+1,A6,N+1,c6,aS,by go_num,e1,rfl,e2,f2,e3,f4,f5⟩
            | ((repeat apply Exists.intro);exact⟨⟨k+1,A6,N+1,c6,aS,by go_num,e1,rfl,e2,f2,e3,f4,f5⟩,rfl⟩)
          case measure=>simp[intOf];omega
      | true=>
        have her:er=0:=by rw[herr.out,ho];rfl
        have hnn:Nn=sg (ef S):=by rw[hnum.out,ho];rfl
        subst her
        by_cases hN:Nn=(k:Int)
        · have HN:Hid (bZ D.now f kind (k+1)=(true,nx+1,dl)):=by show _=_;rw[hnx.out,if_pos ⟨rfl,by rw[hrec.out,ho,<- hnn,hN];simp⟩]
          have hNB:(Nn == (k:Int))=true:=by rw[hN];simp
          clear hN hnn ho;go_wp2;go_roundw
          case rel=>
           have hset:dc (w4.setCell ⟨gj,2,none⟩ (I ((nx:Int)+1))) gj ga kind (nx+1):=Blk.set_ HJ4.out 2 _;have st:Step mutJ base p w4 (w4.setCell ⟨gj,2,none⟩ (I ((nx:Int)+1))):=Step.one (dw _) HJ4.out (aC ..) hg (by have:=S4.size;omega);have f1:=Ow.setFar o4'.out HJ4.out aU 2 (I ((nx:Int)+1));have f2:be (w4.setCell ⟨gj,2,none⟩ (I ((nx:Int)+1))) base p (rdK D (k+1)):=by
            obtain⟨A9,c9,h9⟩:=H4.out;exact⟨A9,c9,h9.keep (F:=(·=gj)) (Keep.one (dw _)) (fun g hf e=>by
             subst e;rcases h9.foot_ty HJ4.out hf with q | q | q | q | q <;> exact absurd q aU)⟩
           have e1:Value.bool true=.bool (bZ D.now f kind (k+1)).1:=by rw[HN.out]
           have e2:Ow iv (w4.setCell ⟨gj,2,none⟩ (I ((nx:Int)+1))) w.heap.size 3 B N c (bZ D.now f kind (k+1)).2.2:=by rw[HN.out];exact f1
           have e3:dc (w4.setCell ⟨gj,2,none⟩ (I ((nx:Int)+1))) gj ga kind (bZ D.now f kind (k+1)).2.1:=by rw[HN.out];exact hset
           first
            | exact⟨k+1,B,N,c,aS,by go_num,e1,rfl,e2,f2,e3,S4.trans st,fun g cs hne hb=>Blk.far (ot4.out g cs hne hb) (show g≠gj from hne) _⟩
            | ((repeat apply Exists.intro);exact⟨⟨k+1,B,N,c,aS,by go_num,e1,rfl,e2,f2,e3,S4.trans st,fun g cs hne hb=>Blk.far (ot4.out g cs hne hb) (show g≠gj from hne) _⟩,rfl⟩)
          case measure=>simp[intOf];omega
        · have hNB:(Nn == (k:Int))=false:=by rw[af];exact hN
          have hc:¬ ((true=true)/\recB S kind k=true):=by rw[hrec.out,ho,<- hnn,aj hN];simp
          have HC:=aT hc;clear hN hnn ho hc
          by_cases hS0:S=bw
          · have hbl':∀ w,Ca 164 #[.agg SV.toArray] w fun e w'=>e=.returned (.bool true)/\Below w.heap.size w w':=fun w=>(hbl w).mono fun e w' ⟨q1,q2⟩=>⟨by rw[q1,am hS0],q2⟩
            have HN:Hid (bZ D.now f kind (k+1)=(false,nx,dl)):=by show _=_;rw[hnx.out,if_neg (HC.out),if_pos hS0]
            clear hbl hS0;go_wp2_with (first | (refine fi rfl (x:=.tmp 7) rfl rfl hb4b Tryz.underlying205 Hi.out hsl.out fS ?_) | (go_at_call 164;go_call (hbl' _) as e w5 ⟨rfl,hb5⟩) | fail);go_roundw
            case rel=>
             have f1:=o4'.out.below hb5 aW;have f2:=H4.out.below hb5;have f3:dc w5 gj ga kind nx:=Blk.below HJ4.out hb5 HJ4.out.lt;have f4:=S4.trans (Step.of_below hb5 (by have:=S4.size;omega));have e1:Value.bool false=.bool (bZ D.now f kind (k+1)).1:=by rw[HN.out]
             have e2:Ow iv w5 w.heap.size 3 B N c (bZ D.now f kind (k+1)).2.2:=by rw[HN.out];exact f1
             have e3:dc w5 gj ga kind (bZ D.now f kind (k+1)).2.1:=by rw[HN.out];exact f3
             have f5:iF w w5 gj:=fun g cs hne hb=>(ot4.out g cs hne hb).below hb5 (ot4.out g cs hne hb).lt
             first
              | exact⟨k+1,B,N,c,aS,by go_num,e1,rfl,e2,f2,e3,f4,f5⟩
              | ((repeat apply Exists.intro);exact⟨⟨k+1,B,N,c,aS,by go_num,e1,rfl,e2,f2,e3,f4,f5⟩,rfl⟩)
            case measure=>simp[intOf];omega
          · have hbl':∀ w,Ca 164 #[.agg SV.toArray] w fun e w'=>e=.returned (.bool false)/\Below w.heap.size w w':=fun w=>(hbl w).mono fun e w' ⟨q1,q2⟩=>⟨by rw[q1,aj hS0],q2⟩
            have HN:Hid (bZ D.now f kind (k+1)=(false,nx,dl ++ [(k:Int)])):=by show _=_;rw[hnx.out,if_neg (HC.out),if_neg hS0]
            have hszw:=S4.size;clear hbl hS0;go_wp2_with (first | (refine fi rfl (x:=.tmp 7) rfl rfl hb4b Tryz.underlying205 Hi.out hsl.out fS ?_) | ((go_at_call 164;go_call (hbl' _) as e w5 ⟨rfl,hb5⟩);have o5:=o4'.out.below hb5 aW;have b5s:=hb5.size) | (at_builtin;refine dR rfl rfl fF gq (s:=.tmp 62) (N:=N+1) (L:=dl ++ [(k:Int)]) rfl (o5.below (b:=w5.heap.size) bc br) rfl (k:=[(k:Int)]) (Rd.of_block (l:=[(k:Int)]) (dP _ _ aZ) rfl) rfl (rfl) bQ aS br ?_;intro A6 c6 w6 hown6 hg6 hat6 hb6) | fail);go_roundw
            case rel=>
             have o5a:=o5.below (b:=w5.heap.size) ((Below.refl w5.heap.size w5).alloc aW (.cells #[I (k:Int)] 3)) aW;have bA:Below w5.heap.size w5 (w5.alloc (.cells #[I (k:Int)] 3)):=(Below.refl w5.heap.size w5).alloc aW _;have f2:=((H4.out.below hb5).below bA).grown o5a hg6 aU;have f3:dc w6 gj ga kind nx:=Blk.grown (Blk.below (Blk.below HJ4.out hb5 HJ4.out.lt) bA kI) hg6 (o5a.ne_ (Blk.below (Blk.below HJ4.out hb5 HJ4.out.lt) bA kI) aU);have f4:=((S4.trans (Step.of_below hb5 aS)).trans (Step.of_below bA aS)).then_below hb6 hs;have e1:Value.bool false=.bool (bZ D.now f kind (k+1)).1:=by rw[HN.out]
             have e2:Ow iv w6 w.heap.size 3 A6 (N+1) c6 (bZ D.now f kind (k+1)).2.2:=by rw[HN.out];exact hown6
             have e3:dc w6 gj ga kind (bZ D.now f kind (k+1)).2.1:=by rw[HN.out];exact f3
             have f5:iF w w6 gj:=fun g cs hne hb=>(by
              have q:=((ot4.out g cs hne hb).below hb5 (ot4.out g cs hne hb).lt);have q2:=q.below bA q.lt;exact Blk.grown q2 hg6 (o5a.ne_ q2 aU))
             first
              | exact⟨k+1,A6,N+1,c6,aS,by go_num,e1,rfl,e2,f2,e3,f4,f5⟩
              | ((repeat apply Exists.intro);exact⟨⟨k+1,A6,N+1,c6,aS,by go_num,e1,rfl,e2,f2,e3,f4,f5⟩,rfl⟩)
            case measure=>simp[intOf];omega
  · have hk9:k=m:=aS;subst hk9;have HDk:=aT hdk;have HJk:=aT hjk;have HS:=aT hst;clear hdk hjk hst;go_wp2;rw[Exit.noGoto_ret];go_ret2;exact⟨B,N,c,rfl,hown,HDk.out,HJk.out,HS.out,hot⟩
theorem jread_off (h:dc w gj ga kind 0)(hd:be w base p D)(hs:base<=w.heap.size)(ha:bD w ga p.d f m)(hm:1<=m)(hfm:f+m<=D.many)(hoff:D.off=true)(hok:D.Ok) :
 Ca 293 #[.pointer (some ⟨gj,0,none⟩)] w fun e w'=>e=.returned (.tuple #[.slice none 0 0,I 50])/\be w' base p D/\Step mutD base p w w':=by
 have c0:=h.c0;have hmany:=iE ha;have hz:=(zero_of_info dy).1;have Hi:=aT (zero_of_info dy).2;have hlz:Hid ((bw.map bv).length=128):=by show _=_;simp[dI]
 have HZm:=aT (ew (l:=bw));have hm4:f+m<=4096:=by have:=hok.many1;omega
 have hon:bN D f m 0=(D,bw,50):=by
  have hmay:mayV D ((f:Int)+0)=50:=by unfold mayV;rw[hoff];rfl
  unfold bN eW;rw[if_neg aS,hmay,if_pos aZ]
 have hrd:=lD hd hs ha hfm 0;rw[hon] at hrd;simp only at hrd;clear h hd ha hok hon;unfold aggB at *;generalize bw.map bv=Z at *;go_enter Tryz.func293,Tryz.ntmps293;go_wp2_with fail;go_step3;go_wp2_with fail;go_step3;go_wp2_with (first | (go_at_call 113;go_call (hmany) as e w1 ⟨rfl,rfl⟩) | fail);go_loopw [4,5,6,7,8,9,10,11,17] (fun _ _ _ _ _ _ _ _ i wr=>i=I 0/\wr=w) (fun _ _ _ _ _ _ _ _ i _=>m - (intOf i).toNat)
 case atStart=>exact⟨rfl,rfl⟩
 case round=>
  obtain⟨rfl,rfl⟩:=hrel;have hmI:(0:Int)<m:=aS;go_wp2_with (first | ((go_at_call 162;go_call (hrd) as e w2 ⟨rfl,h2,s2⟩);have H2:=aT h2;clear h2) | (refine eu rfl (x:=.tmp 7) (y:=.tmp 27) rfl rfl rfl (t:=205) (cs:=Z) (xs:=Z) (Blk.top _ rfl rfl) Hi.out hlz.out gu HZm.out ?_;intro w3 hb3 hg3 hs3;rw[dS _ _ rfl] at hb3;have b3:=et ((Below.refl w2.heap.size w2).alloc aW _) hg3 br br) | fail);rw[Exit.noGoto_ret];go_ret2;exact⟨rfl,H2.out.below b3,s2.trans (Step.of_below b3 lm)⟩
theorem Step.noJrn (hb:Below w.heap.size w w1)(h:Step mutJ base p w1 w')(ho:iF w1 w' gj)(hg:w.heap.size<=gj)(hs:base<=w.heap.size):Step mutD base p w w':=by
 obtain⟨h1,F,hF,tF⟩:=h;refine⟨(hb.mono hs).trans h1,fun g=>F g/\∀ cs,¬ Blk w1 g 363 cs,⟨hF.os.trans hb.os,hF.tape.trans hb.tape,hF.output.trans hb.output,ae hb.size hF.size,fun k hk hn=>?_⟩,fun g t cs e hbk=>?_⟩
 · have e0:=hb.block k hk
   by_cases hfk:F k
   · have:∃ cs,Blk w1 k 363 cs:=by
      apply Classical.byContradiction;intro hno;exact hn ⟨hfk,fun cs hc=>hno ⟨cs,hc⟩⟩
     obtain⟨cs,hc⟩:=this;have:=ho k cs aS hc;unfold Blk at this hc;rw[this,<- hc];exact e0
   · rw[<- e0];exact hF.block k kJ hfk
 · have hb1:=hbk.below hb hbk.lt;rcases tF g t cs e.1 hb1 with q | q
   · rcases List.mem_cons.1 q with q | q
     · subst q;exact absurd hb1 (e.2 cs)
     · exact .inl q
   · exact .inr q
end
def sumL (l:List UInt8):List UInt8:=le4 (fv [l])
def cu (n:Nat):Nat:=(n+127) / 128
def fW (now:List UInt8)(f:Nat):Nat->List UInt8
 | 0=>[]
 | k+1=>fW now f k ++ ch now ((f+(1+k):Nat):Int)
theorem bodyL_len {now:List UInt8}{s:Nat}(h:now.length=s * 128):∀ k,f+(1+k)<=s->(fW now f k).length=k * 128:=by
 intro k
 induction k with
 | zero=>intro _;rfl
 | succ k ih=>
   intro hk;unfold fW;rw[aw,ih aS,iC h aS aS];omega
def fw (L:List UInt8):Int:=sg (getL (L.take 8))
def cd (D:aX)(f m:Nat):aX × List UInt8 × Int × Int :=
 if (cP D f m 0 2).2.2≠0 then ((bN D f m 0).1,[],0,(cP D f m 0 2).2.2)
 else if (cP D f m 0 2).2.1.length≠12 then ((bN D f m 0).1,[],0,53)
 else if fw (cP D f m 0 2).2.1<0\/512<fw (cP D f m 0 2).2.1 then ((bN D f m 0).1,[],0,53)
 else if sumL ((fW D.now f (cu (fw (cP D f m 0 2).2.1).toNat)).take (fw (cP D f m 0 2).2.1).toNat)=(cP D f m 0 2).2.1.drop 8
 then (rdK (bN D f m 0).1 (cu (fw (cP D f m 0 2).2.1).toNat),(fW D.now f (cu (fw (cP D f m 0 2).2.1).toNat)).take (fw (cP D f m 0 2).2.1).toNat,(cP D f m 0 2).1,0)
 else (rdK (bN D f m 0).1 (cu (fw (cP D f m 0 2).2.1).toNat),[],0,53)
structure SlV3 where
 now:Nat
 number:Int
 load:List UInt8
def dq (D:aX)(fl ml fr mr:Nat):aX × SlV3 × Int :=
 if (cd D fl ml).2.2.2≠0/\(cd D fl ml).2.2.2≠53 then ((cd D fl ml).1,⟨2,0,[]⟩,(cd D fl ml).2.2.2)
 else if (cd (cd D fl ml).1 fr mr).2.2.2≠0/\(cd (cd D fl ml).1 fr mr).2.2.2≠53 then ((cd (cd D fl ml).1 fr mr).1,⟨2,0,[]⟩,(cd (cd D fl ml).1 fr mr).2.2.2)
 else if (cd D fl ml).2.2.2=0/\((cd (cd D fl ml).1 fr mr).2.2.2≠0\/(cd (cd D fl ml).1 fr mr).2.2.1<=(cd D fl ml).2.2.1) then ((cd (cd D fl ml).1 fr mr).1,⟨0,(cd D fl ml).2.2.1,(cd D fl ml).2.1⟩,0)
 else if (cd (cd D fl ml).1 fr mr).2.2.2=0 then ((cd (cd D fl ml).1 fr mr).1,⟨1,(cd (cd D fl ml).1 fr mr).2.2.1,(cd (cd D fl ml).1 fr mr).2.1⟩,0)
 else ((cd (cd D fl ml).1 fr mr).1,⟨2,0,[]⟩,0)
def padL (load:List UInt8)(i:Nat):List UInt8:=(load.drop (i * 128)).take 128 ++ List.replicate (128 - ((load.drop (i * 128)).take 128).length) 0
theorem nX (load:List UInt8)(i:Nat):(padL load i).length=128:=by
 unfold padL;rw[aw,List.length_replicate,aA];omega
def eC (D:aX)(f m:Nat)(load:List UInt8):Nat->Nat->aX × Int
 | _,0=>(D,0)
 | i,k+1=>if (bK D f m ((1+i:Nat):Int) (padL load i)).2≠0 then bK D f m ((1+i:Nat):Int) (padL load i) else eC (bK D f m ((1+i:Nat):Int) (padL load i)).1 f m load (i+1) k
def dX (D:aX)(f m:Nat)(load:List UInt8):aX × Int :=
 if (eC D f m load 0 (cu load.length)).2≠0 then eC D f m load 0 (cu load.length) else bH (eC D f m load 0 (cu load.length)).1
def dJ (load:List UInt8):List UInt8:=putL (un load.length) ++ sumL load
def ea (D:aX)(f m:Nat)(number:Int)(load:List UInt8):aX × Int :=
 if (bK D f m 0 bw).2≠0 then bK D f m 0 bw
 else if (bH (bK D f m 0 bw).1).2≠0 then bH (bK D f m 0 bw).1
 else if (dX (bH (bK D f m 0 bw).1).1 f m load).2≠0 then dX (bH (bK D f m 0 bw).1).1 f m load
 else if (cI (dX (bH (bK D f m 0 bw).1).1 f m load).1 f m 0 2 number (dJ load)).2≠0 then cI (dX (bH (bK D f m 0 bw).1).1 f m load).1 f m 0 2 number (dJ load)
 else bH (cI (dX (bH (bK D f m 0 bw).1).1 f m load).1 f m 0 2 number (dJ load)).1
def dj (D:aX)(fl ml fr mr:Nat)(s:SlV3)(load:List UInt8):aX × SlV3 × Int :=
 if 512<load.length\/s.number=9223372036854775807 then (D,s,3)
 else if (ea D (if s.now=0 then fr else fl) (if s.now=0 then mr else ml) (s.number+1) load).2≠0 then ((ea D (if s.now=0 then fr else fl) (if s.now=0 then mr else ml) (s.number+1) load).1,s,(ea D (if s.now=0 then fr else fl) (if s.now=0 then mr else ml) (s.number+1) load).2)
 else ((ea D (if s.now=0 then fr else fl) (if s.now=0 then mr else ml) (s.number+1) load).1,⟨if s.now=0 then 1 else 0,s.number+1,load⟩,0)
theorem writeV_many (D:aX)(n:Int)(b:List UInt8):(eL D n b).1.many=D.many/\(eL D n b).1.waits.length<=D.waits.length+1:=by
 unfold eL
 split
 · exact⟨rfl,by simp⟩
 · split
   · exact⟨rfl,by simp⟩
   · exact⟨rfl,by simp[ey,putD]⟩
theorem jm (D:aX)(f m:Nat)(n:Int)(b:List UInt8):(bK D f m n b).1.many=D.many/\(bK D f m n b).1.waits.length<=D.waits.length+1:=by
 unfold bK
 split
 · exact⟨rfl,by simp⟩
 · exact writeV_many _ _ _
def dL (D:aX)(f m:Nat):List Int->aX × Int
 | []=>(D,0)
 | n :: l=>if (bK D f m n bw).2≠0 then bK D f m n bw else dL (bK D f m n bw).1 f m l
def eg (D:aX)(f m:Nat)(kind:Int):aX × Int:=dL (rdK D m) f m (bZ D.now f kind m).2.2
def bP (D:aX)(f m:Nat)(kind:Int):aX × Nat × Int :=
 if kind<1\/255<kind then (D,0,2)
 else if D.off=true then (D,0,50)
 else if (eg D f m kind).2≠0 then ((eg D f m kind).1,0,(eg D f m kind).2)
 else if (bZ D.now f kind m).2.2=[] then ((eg D f m kind).1,(bZ D.now f kind m).2.1,0)
 else if (bH (eg D f m kind).1).2≠0 then ((bH (eg D f m kind).1).1,0,(bH (eg D f m kind).1).2)
 else ((bH (eg D f m kind).1).1,(bZ D.now f kind m).2.1,0)
def gP (w:World)(base ga:Nat)(kind:Int)(p:bE)(R:aX × Nat × Int)(e:Ending)(w':World):Prop :=
 ∃ P,e=.returned (.tuple #[.pointer P,I R.2.2])/\(R.2.2≠0->P=none)/\(R.2.2=0->∃ gj,P=some ⟨gj,0,none⟩/\w.heap.size<=gj/\dc w' gj ga kind R.2.1)/\be w' base p R.1/\Step mutD base p w w'
theorem gP.no {z:Int}(hz:z≠0)(hd:be w' base p D)(hs:Step mutD base p w w'):gP w base ga kind p (D,0,z) (.returned (.tuple #[.pointer none,I z])) w' :=
 ⟨none,rfl,fun _=>rfl,fun e=>absurd e hz,hd,hs⟩
theorem gP.yes {gj next:Nat}(hg:w.heap.size<=gj)(hj:dc w' gj ga kind next)(hd:be w' base p D)(hs:Step mutD base p w w'):gP w base ga kind p (D,next,0) (.returned (.tuple #[.pointer (some ⟨gj,0,none⟩),I 0])) w' :=
 ⟨_,rfl,fun e=>absurd rfl e,fun _=>⟨gj,rfl,hg,hj⟩,hd,hs⟩
section
variable {w w':World} {base ga f m:Nat} {kind:Int} {p:bE} {D:aX}
theorem jopen_kind (ha:bD w ga p.d f m)(hm:1<=m)(hd:be w base p D)(h:kind<1\/255<kind):Ca 253 #[.pointer (some ⟨ga,0,none⟩),I kind] w (gP w base ga kind p (D,0,2)):=by
 have hmany:=iE ha;have hc:kind<1\/(1<=kind/\255<kind):=aS;have hmz:((m:Int) == 0)=false:=by rw[af];omega
 have HD:=aT hd;clear h hd ha;rcases hc with h1 | ⟨h1,h2⟩
 all_goals
  go_enter Tryz.func253,Tryz.ntmps253;go_wp2_with (first | (go_at_call 113;go_call (hmany) as e w1 ⟨rfl,rfl⟩) | fail);go_ret2;exact gP.no aZ HD.out (Step.refl _ _ _ _)
theorem jrn_new (w:World)(ga:Nat)(kind:Int):dc (w.alloc (.cells #[.pointer (some ⟨ga,0,none⟩),I kind,I 0] 363)) w.heap.size ga kind 0:=Blk.top _ rfl rfl
theorem jopen_off (ha:bD w ga p.d f m)(hm:1<=m)(hd:be w base p D)(hs:base<=w.heap.size)(h1:1<=kind)(h2:kind<=255)(hfm:f+m<=D.many)(hoff:D.off=true)(hok:D.Ok) :
 Ca 253 #[.pointer (some ⟨ga,0,none⟩),I kind] w (gP w base ga kind p (D,0,50)):=by
 have hmany:=iE ha;have hmz:((m:Int) == 0)=false:=by rw[af];omega
 have bA:Below w.heap.size w (w.alloc (.cells #[.pointer (some ⟨ga,0,none⟩),I kind,I 0] 363)):=(Below.refl _ _).alloc aW _;have hrd:=jread_off (jrn_new w ga kind) (hd.below bA) (by have:=bA.size;omega) (ha.below bA) hm hfm hoff hok;have BA:=aT bA;clear ha hd hok bA;go_enter Tryz.func253,Tryz.ntmps253;go_wp2_with (first | (go_at_call 113;go_call (hmany) as e w1 ⟨rfl,rfl⟩) | ((go_at_call 293;go_call (hrd) as e w2 ⟨rfl,h2,s2⟩)) | fail);go_ret2;exact gP.no aZ h2 ((Step.of_below BA.out hs).trans s2)
theorem lG {n:Int}{l:List Int}(h:(bK D f m n bw).2=0):dL D f m (n :: l)=dL (bK D f m n bw).1 f m l:=by
 show (if (bK D f m n bw).2≠0 then _ else _)=_
 rw[if_neg aS]
theorem lH {n:Int}{l:List Int}(h:(bK D f m n bw).2≠0):dL D f m (n :: l)=bK D f m n bw:=by
 show (if (bK D f m n bw).2≠0 then _ else _)=_
 rw[if_pos h]
theorem jopen_on (ha:bD w ga p.d f m)(hm:1<=m)(hd:be w base p D)(hs:base<=w.heap.size)(h1:1<=kind)(h2:kind<=255)(hfm:f+m<=D.many)(hoff:D.off=false)(hok:D.Ok)(hwt:D.waits.length<900000) :
 Ca 253 #[.pointer (some ⟨ga,0,none⟩),I kind] w (gP w base ga kind p (bP D f m kind)):=by
 have hmany:=iE ha;have hmz:((m:Int) == 0)=false:=by rw[af];omega
 have bA:Below w.heap.size w (w.alloc (.cells #[.pointer (some ⟨ga,0,none⟩),I kind,I 0] 363)):=(Below.refl _ _).alloc aW _;have hrd:=jread_on (jrn_new w ga kind) (hd.below bA) (by have:=bA.size;omega) hs (ha.below bA) hfm hoff hok;have hm4:f+m<=4096:=by have:=hok.many1;omega
 have hle:=mn D.now f kind m;have hun:bP D f m kind=if (eg D f m kind).2≠0 then ((eg D f m kind).1,0,(eg D f m kind).2)
  else if (bZ D.now f kind m).2.2=[] then ((eg D f m kind).1,(bZ D.now f kind m).2.1,0)
  else if (bH (eg D f m kind).1).2≠0 then ((bH (eg D f m kind).1).1,0,(bH (eg D f m kind).1).2)
  else ((bH (eg D f m kind).1).1,(bZ D.now f kind m).2.1,0):=by
  unfold bP;rw[if_neg aS,if_neg (by rw[hoff];simp)]
 unfold eg at hun;obtain⟨o,eo⟩:=gO D m;have hm1:(rdK D m).many=D.many:=by rw[eo]
 have hw1:(rdK D m).waits.length=D.waits.length:=by rw[eo]
 generalize bP D f m kind=R at *;generalize bZ D.now f kind m=sc at *;obtain⟨op,nx,dl⟩:=sc;generalize rdK D m=D1 at *;simp only at hun hle hrd;have BA:=aT bA;have HA:=aT ha;have HD:=aT hd;have HUN:=aT hun;clear ha hd hok bA eo hun;go_enter Tryz.func253,Tryz.ntmps253;go_wp2_with (first | (go_at_call 113;go_call (hmany) as e w1 ⟨rfl,rfl⟩) | ((go_at_call 293;go_call (hrd) as e w2 ⟨B,N,c,rfl,o2,h2,j2,s2,t2⟩);have O2:=aT o2;have H2:=aT h2;have J2:=aT j2;have S2:=aT (Step.noJrn BA.out s2 t2 aW hs);clear o2 h2 j2 s2 t2) | fail);have hNl:=O2.out.1;have sz2:=S2.out.size;have hA2:=HD.out.area HA.out S2.out.tch aU;have HA2:=aT hA2;clear hA2;go_loopw [10,11,38] (fun _ _ i wr=>∃ (j:Nat) (Dj:aX),j<=N/\i=I (j:Nat)/\dL D1 f m dl=dL Dj f m (dl.drop j)/\Dj.many=D.many/\Dj.waits.length<=D.waits.length+j/\be wr base p Dj/\Step mutD base p w2 wr) (fun _ _ i _=>N - (intOf i).toNat)
 case atStart=>exact⟨0,D1,aS,rfl,rfl,hm1,aS,H2.out,Step.refl _ _ _ _⟩
 case round=>
  obtain⟨j,Dj,hj,rfl,hwk,hmj,hwj,hdj,hst⟩:=hrel;have hsts:=hst.size;have hjj:dc wr w.heap.size ga kind nx:=H2.out.blk J2.out hst.tch aU;have haj:=H2.out.area HA2.out hst.tch aU;have hoj:=H2.out.ow O2.out hst.tch aU;have HWK:=aT hwk;have HDJ:=aT hdj;have HST:=aT hst
  by_cases hlt:j<N
  · obtain⟨b,o,hB,hb,hcell⟩:=hoj.rd.2.at_ hlt;have hjl:j<dl.length:=aS;have hdr:=aQ hjl;have hval:wr.cell? ⟨b,o+j,none⟩=some (I dl[j]):=by rw[hcell,ik dl j hjl];rfl
    have hwp:=s_awipe hdj aS haj (by rw[hmj];exact hfm) dl[j] aS;obtain⟨q1,q2⟩:=jm Dj f m dl[j] bw;rw[hdr] at hwk
    by_cases he:(bK Dj f m dl[j] bw).2=0
    · rw[lG he] at hwk;rw[he] at hwp;generalize (bK Dj f m dl[j] bw).1=Dn at *;generalize dl[j]=nn at *;have HW2:=aT hwk;clear hwk hdj he hdr hoj hcell;subst hB;go_wp2_with (first | (go_at_call 198;go_call (hwp) as e w3 ⟨rfl,h3,s3⟩) | fail);go_roundw
      case rel=>first
       | exact⟨j+1,Dn,aS,by go_num,HW2.out,aS,by omega,h3,HST.out.trans s3⟩
       | ((repeat apply Exists.intro);exact⟨⟨j+1,Dn,aS,by go_num,HW2.out,aS,by omega,h3,HST.out.trans s3⟩,rfl⟩)
      case measure=>simp[intOf];omega
    · rw[lH he] at hwk;have hR:=HUN.out;rw[hwk,if_pos he] at hR;subst hR;generalize bK Dj f m dl[j] bw=P at *;obtain⟨Dn,z⟩:=P;simp only at hwp he;generalize dl[j]=nn at *;have hne:(z != 0)=true:=by rw[ag];exact he
      have HE:=aT he;clear hwk hdj he hdr hoj hcell HUN HWK q1 q2;subst hB;go_wp2_with (first | (go_at_call 198;go_call (hwp) as e w3 ⟨rfl,h3,s3⟩) | fail);go_ret2;exact gP.no HE.out h3 ((S2.out.trans HST.out).trans s3)
  · have hjN:j=N:=aS;subst hjN;have hdr:dl.drop j=[]:=aP aS;rw[hdr] at hwk;have hR:=HUN.out;rw[hwk,show dL Dj f m []=(Dj,0) from rfl,if_neg aZ] at hR;simp only at hR
    by_cases hd0:dl=[]
    · rw[if_pos hd0] at hR;have hj0:j=0:=by rw[<- hNl,hd0];rfl
      subst hj0 hR;have HJJ:=aT hjj;clear hwk hdj hdr hoj HUN HWK hjj haj;go_wp2;go_ret2;exact gP.yes aW HJJ.out HDJ.out (S2.out.trans HST.out)
    · rw[if_neg hd0] at hR;have hj0:0<j:=by
       rcases aI j with q | q
       · exact absurd (List.eq_nil_of_length_eq_zero aS) hd0
       · exact q
      have hfl:=j7 hdj aS haj;generalize bH Dj=FV at *;obtain⟨Df,z⟩:=FV;simp only at hR hfl;have HJJ:=aT hjj
      by_cases hz:z=0
      · subst hz;rw[if_neg aZ] at hR;subst hR;clear hwk hdj hdr hoj HUN HWK hjj haj hd0;go_wp2_with (first | (go_at_call 116;go_call (hfl) as e w3 ⟨rfl,h3,s3⟩) | fail);go_ret2;exact gP.yes aW (HDJ.out.blk HJJ.out s3.tch aU) h3 ((S2.out.trans HST.out).trans s3)
      · rw[if_pos hz] at hR;subst hR;have hne:(z != 0)=true:=by rw[ag];exact hz
        have HZ:=aT hz;clear hwk hdj hdr hoj HUN HWK hjj haj hd0 hz;go_wp2_with (first | (go_at_call 116;go_call (hfl) as e w3 ⟨rfl,h3,s3⟩) | fail);go_ret2;exact gP.no HZ.out h3 ((S2.out.trans HST.out).trans s3)
theorem jopen_any (ha:bD w ga p.d f m)(hm:1<=m)(hd:be w base p D)(hs:base<=w.heap.size)(hfm:f+m<=D.many)(hwt:D.waits.length<900000) :
 Ca 253 #[.pointer (some ⟨ga,0,none⟩),I kind] w (gP w base ga kind p (bP D f m kind)):=by
 have hok:D.Ok:=by obtain⟨A,c,h⟩:=hd;exact h.ok
 by_cases hk:kind<1\/255<kind
 · have:bP D f m kind=(D,0,2):=by unfold bP;rw[if_pos hk]
   rw[this];exact jopen_kind ha hm hd hk
 · cases ho:D.off with
   | true=>
     have:bP D f m kind=(D,0,50):=by unfold bP;rw[if_neg hk,if_pos ho]
     rw[this];exact jopen_off ha hm hd hs aS aS hfm ho hok
   | false=>exact jopen_on ha hm hd hs aS aS hfm ho hok hwt
end
theorem secOf_splice {l b:List UInt8}{k many:Nat}(hl:l.length=many * 128)(hb:b.length=128)(hn:n<many)(hk:k<many):ch (splice l (n * 128) b) (k:Int)=if k=n then b else ch l (k:Int):=by
 have h1:(ch (splice l (n * 128) b) (k:Int)).length=128:=iC (s:=many) (by rw[ji (by rw[hl,hb];omega),hl]) aS aS;have h2:(ch l (k:Int)).length=128:=iC (s:=many) hl aS aS;have ext:∀ {x y:List UInt8},x.length=128->y.length=128->(∀ i,i<128->bx x i=bx y i)->x=y:=by
  intro x y hx hy h;apply List.ext_getElem aS;intro i q1 q2;have:=h i aS;unfold bx at this;rw[ah,ah,ap q1,ap q2] at this;exact UInt8.toNat_inj.1 this
 split
 · rename_i e;subst e;refine ext h1 hb (fun i hi=>?_);rw[jY hi,jl (by rw[hl,hb];omega),if_pos (by rw[hb];omega),Nat.add_sub_cancel_left]
 · rename_i e;refine ext h1 h2 (fun i hi=>?_);rw[jY hi,jY hi,jl (by rw[hl,hb];omega),if_neg (by rw[hb];omega)]
theorem byte_ext {x y:List UInt8}(hx:x.length=y.length)(h:∀ i,i<y.length->bx x i=bx y i):x=y:=by
 apply List.ext_getElem aS;intro i q1 q2;have:=h i aS;unfold bx at this;rw[ah,ah,ap q1,ap q2] at this;exact UInt8.toNat_inj.1 this
section
variable {w w':World} {base ga gj f m next:Nat} {kind:Int} {p:bE} {D:aX}
theorem dc.below (h:dc w gj ga kind next)(hb:Below w.heap.size w w'):dc w' gj ga kind next:=Blk.below h hb h.lt
theorem s_anew (h:be w base p D)(hs:base<=w.heap.size)(f m:Nat)(h1:1<=m)(h2:f+m<=D.many) :
 Ca 109 #[.pointer (some ⟨p.d,0,none⟩),.agg #[I (f:Int),I (m:Int)]] w fun e w'=>∃ ga,e=.returned (.tuple #[.pointer (some ⟨ga,0,none⟩),I 0])/\bD w' ga p.d f m/\w.heap.size<=ga/\be w' base p D/\Step mutD base p w w':=by
 obtain⟨A,c,h⟩:=h;exact (anew_ok h f m h1 h2).mono fun e w' ⟨ga,h1,h2,h3,h4⟩=>⟨ga,h1,h2,h3,(h.below h4).s,Step.of_below h4 hs⟩
end
structure SlV where
 a:Option Addr
 n:Nat
 c:Nat
variable {h:SlV}
def slV (h:SlV):Value:=.slice h.a h.n h.c
theorem lI (h:SlV):(slV h).oneCell'=true:=rfl
open Go.RowKit Go.WideShapes Go.ChangeShapes Go.Deep Go.Joins
def fJ (w:World)(base:Nat)(t:TypeId)(A:Option Addr):Prop:=∀ g,A.map (·.block)=some g->g<base\/∃ cs,Blk w g t cs
def eq (w:World)(base:Nat)(h:SlV)(L:List UInt8):Prop:=RB w h.a h.n L/\h.n<=maxLen/\(0<h.n->fJ w base 5 h.a)
theorem Row.sameB {A:Option Addr}{f:Nat->Value}(h:Row w A n f)(hs:w.heap.size<=w'.heap.size)(hF:∀ b,A.map (·.block)=some b->b<w.heap.size->w'.heap[b]?=w.heap[b]?):Row w' A n f:=fun h0=>by
 obtain⟨b,o,rfl,hb,hc⟩:=h h0;refine⟨b,o,rfl,Nat.lt_of_lt_of_le hb hs,fun i hi=>?_⟩;rw[<- hc i hi];have:=hF b rfl hb;simp only[World.cell?,this]
section
variable {M:List TypeId} {w w':World} {base:Nat} {p:bE} {D:aX} {t:TypeId} {A:Option Addr} {n:Nat}
theorem fJ.step (h:fJ w base t A)(hd:be w base p D)(k:Step M base p w w')(ht:t ∉ 4 :: M):fJ w' base t A:=fun g hg=>by
 rcases h g hg with q | ⟨cs,q⟩
 · exact .inl q
 · exact .inr ⟨cs,hd.blk q k.tch ht⟩
theorem fJ.heap (h:fJ w base t A)(hd:be w base p D)(k:Step M base p w w')(ht:t ∉ 4 :: M):∀ b,A.map (·.block)=some b->b<w.heap.size->w'.heap[b]?=w.heap[b]?:=fun b hb _=>by
 rcases h b hb with q | ⟨cs,q⟩
 · exact k.bel.block b q
 · exact Eq.trans (hd.blk q k.tch ht) (Eq.symm q)
theorem Row.stepR {f:Nat->Value}(h:Row w A n f)(hr:0<n->fJ w base t A)(hd:be w base p D)(k:Step M base p w w')(ht:t ∉ 4 :: M):Row w' A n f:=fun h0=>(h.sameB k.size ((hr h0).heap hd k ht)) h0
theorem eq.step (H:eq w base h L)(hd:be w base p D)(k:Step M base p w w')(ht:5 ∉ 4 :: M):eq w' base h L :=
 ⟨⟨H.1.1,H.1.2.stepR H.2.2 hd k ht⟩,H.2.1,fun h0=>(H.2.2 h0).step hd k ht⟩
theorem eq.below (H:eq w base h L)(hb:Below w.heap.size w w'):eq w' base h L :=
 ⟨H.1.below hb aW,H.2.1,fun h0 g hg=>by
  rcases H.2.2 h0 g hg with q | ⟨cs,q⟩
  · exact .inl q
  · exact .inr ⟨cs,q.below hb q.lt⟩⟩
theorem Ow.blk {enc:α->Value}{c:Nat}{l:List α}(h:Ow enc w base t A n c l){g:Nat}(hg:A.map (·.block)=some g):∃ cs,Blk w g t cs:=by
 rcases h.2.2 with ⟨hv,_⟩ | ⟨g',cap,cur,hv,_,hh,_⟩
 · injection hv with hv;subst hv;cases hg
 · injection hv with hv;subst hv;simp only[Option.map_some,Option.some.injEq] at hg;subst hg;exact⟨cur.toList,by unfold Blk;rw[hh]⟩
theorem eq.of_ob {b:Nat}(H:OB w b 5 h.a h.n h.c L):eq w base h L :=
 ⟨H.rd.rb,by have:=H.cap;omega,fun _ g hg=>.inr (H.blk hg)⟩
theorem Rd.take_ {enc:α->Value}{l:List α}(h:Rd enc w A n l)(hm:m<=n):Rd enc w A m (l.take m) :=
 ⟨by rw[aA,h.1];omega,(h.2.take hm).congr fun i hi=>by
  show (l.map enc).getD i undef=((l.take m).map enc).getD i undef
  rw[ah,ah,List.map_take,aL,if_pos hi]⟩
end
