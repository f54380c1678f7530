/- Parts. -/
import Derived.Test.YtmeebofhlilcmaaGreatPr14
set_option linter.unusedVariables false
set_option linter.unusedSimpArgs false
set_option maxRecDepth 100000
set_option maxHeartbeats 0
namespace Go.Proofs.YtmeebofhlilcmaaGreat
variable {base:Nat} {w1:World}
open Go.RowKit
theorem br.grown {α:Type}{enc:α->Value}{w w':World}{b n c:Nat}{e:TypeId}{B:Option Addr}{p:bJ}{D:aY}{l:List α}(h:br w base p D)(ho:Ow enc w b e B n c l)(hg:w.grownBy w' (B.map (·.block)))(ht:e ∉ 4 :: mutD):br w' base p D:=by
 obtain⟨A,a,h⟩:=h;refine⟨A,a,h.keep (F:=fun g=>B.map (·.block)=some g) (Keep.of_grown hg (fun g e=>e)) (fun g hf he=>?_)⟩;rcases ho.2.2 with ⟨hv,_⟩ | ⟨g',cap,cur,hv,_,hh,_⟩
 · injection hv with hv;subst hv;cases he
 · injection hv with hv;subst hv;simp only[Option.map_some,Option.some.injEq] at he;subst he;rcases h.foot_ty (t:=e) (cs:=cur.toList) (by unfold Blk;rw[hh]) hf with q | q | q | q | q
   all_goals exact ht (by rw[q];decide)
theorem Step.then_below {M:List TypeId}{w w2:World}{p:bJ}(h:Step M base p w w1)(hb:Below w.heap.size w1 w2)(hs:base<=w.heap.size):Step M base p w w2:=by
 obtain⟨h1,F,hF,tF⟩:=h;refine⟨h1.trans (hb.mono hs),F,⟨hb.os.trans hF.os,hb.tape.trans hF.tape,hb.output.trans hF.output,aj hF.size hb.size,fun k hk hn=>(hb.block k hk).trans (hF.block k hk hn)⟩,tF⟩
def iw (w w':World)(gj:Nat):Prop:=∀ g cs,g≠gj->Blk w g 363 cs->Blk w' g 363 cs
def rdK (D:aY):Nat->aY
 | 0=>D
 | k+1=>ef (rdK D k)
theorem gI (D:aY):∀ k,∃ o,rdK D k={ D with ops:=o }:=by
 intro k
 induction k with
 | zero=>exact⟨D.ops,rfl⟩
 | succ k ih=>obtain⟨o,e⟩:=ih;exact⟨mAdd o 1 1,by show ef (rdK D k)=_;rw[e];rfl⟩
def recB (S:List UInt8)(kind:Int)(k:Nat):Bool:=eT S kind && decide (sg (ej S)=(k:Int))
def ca (now:List UInt8)(f:Nat)(kind:Int):Nat->Bool × Nat × List Int
 | 0=>(true,0,[])
 | k+1=>
   if (ca now f kind k).1=true/\recB (cj now ((f+k:Nat):Int)) kind k=true then (true,(ca now f kind k).2.1+1,(ca now f kind k).2.2)
   else (false,(ca now f kind k).2.1,if cj now ((f+k:Nat):Int)=bw then (ca now f kind k).2.2 else (ca now f kind k).2.2 ++ [(k:Int)])
theorem lZ (now:List UInt8)(f:Nat)(kind:Int):∀ k,(ca now f kind k).2.1<=k/\(ca now f kind k).2.2.length<=k:=by
 intro k
 induction k with
 | zero=>exact⟨Nat.le_refl _,Nat.le_refl _⟩
 | succ k ih=>
   unfold ca
   split
   · simp only;omega
   · simp only
     split
     · omega
     · rw[az,aJ];omega
section
variable {w w':World} {base ga gj f m:Nat} {kind:Int} {p:bJ} {D:aY}
theorem ku {D:aY}(h:D.off=false){f m k:Nat}(hfm:f+m<=D.many)(hk:k<m):bN D f m (k:Int)=(ef D,cj D.now ((f+k:Nat):Int),0):=by
 unfold bN eX;have hm:mayV D ((f:Int)+k)=0:=by unfold mayV;rw[h];simp;omega
 rw[if_neg aS,hm,if_neg bj];rw[show ((f:Int)+(k:Int))=((f+k:Nat):Int) by omega]
theorem jread_on (h:dh w gj ga kind 0)(hd:br w base p D)(hs:base<=w.heap.size)(hg:base<=gj)(ha:bE w ga p.d f m)(hfm:f+m<=D.many)(hoff:D.off=false)(hok:D.Ok) :
 Ca 293 #[.pointer (some ⟨gj,0,none⟩)] w fun e w'=>∃ B N c,e=.returned (.tuple #[.slice B N c,I 0])/\Ow iv w' w.heap.size 3 B N c (ca D.now f kind m).2.2 /\
  br w' base p (rdK D m)/\dh w' gj ga kind (ca D.now f kind m).2.1/\Step mutJ base p w w'/\iw w w' gj:=by
 have c0:=h.c0;have hmany:=iu ha;have hz:=(zero_of_info dI).1;have Hi:=aT (zero_of_info dI).2;have hlz:Hid ((bw.map bv).length=128):=by show _=_;simp[dQ]
 have hm4:f+m<=4096:=by have:=hok.many1;omega
 have HD:=aT hd;have HJ:=aT h;have HA:=aT ha;have HOK:=aT hok;clear h hd ha hok;unfold aggB at *;generalize hZ:bw.map bv=Z at *;have HZ:=aT hZ;clear hZ;go_enter Tryz.func293,Tryz.ntmps293;go_wp2_with fail;go_step3;go_wp2_with fail;go_step3;go_wp2_with (first | (go_at_call 113;go_call (hmany) as e w1 ⟨rfl,rfl⟩) | fail);go_loopw [4,5,6,7,8,9,10,11,17] (fun v o _ _ _ _ _ _ i wr=>∃ (k:Nat) (B:Option Addr) (N c:Nat),k<=m/\i=I (k:Nat)/\o=.bool (ca D.now f kind k).1/\v=.slice B N c/\Ow iv wr w.heap.size 3 B N c (ca D.now f kind k).2.2 /\
  br wr base p (rdK D k)/\dh wr gj ga kind (ca D.now f kind k).2.1/\Step mutJ base p w wr/\iw w wr gj) (fun _ _ _ _ _ _ _ _ i _=>m - (intOf i).toNat)
 case atStart=>exact⟨0,none,0,0,aS,rfl,rfl,rfl,Ow.nil _ _ _ _,HD.out,HJ.out,Step.refl _ _ _ _,fun _ _ _ h=>h⟩
 case round=>
  obtain⟨k,B,N,c,hk,rfl,rfl,rfl,hown,hdk,hjk,hst,hot⟩:=hrel
  by_cases hlt:k<m
  · have hak:=HD.out.area HA.out hst.tch aU;obtain⟨o,eo⟩:=gI D k;have hon:bN (rdK D k) f m (k:Int)=(rdK D (k+1),cj D.now ((f+k:Nat):Int),0):=by
     rw[ku (by rw[eo];exact hoff) ke hlt]
     show (rdK D (k+1),cj (rdK D k).now _,(0:Int))=_
     rw[eo]
    have hsz:=hst.size;have hrd:=kX hdk aS hak ke (k:Int);rw[hon] at hrd;simp only at hrd;have hsl0:(cj D.now ((f+k:Nat):Int)).length=128:=ir HOK.out.now aS aS;have hop:=fun w=>open_v (cj D.now ((f+k:Nat):Int)) kind w hsl0
    have hbl:=fun w=>blank_any (cj D.now ((f+k:Nat):Int)) w hsl0
    have hnx:Hid (ca D.now f kind (k+1)=if (ca D.now f kind k).1=true/\recB (cj D.now ((f+k:Nat):Int)) kind k=true then (true,(ca D.now f kind k).2.1+1,(ca D.now f kind k).2.2) else (false,(ca D.now f kind k).2.1,if cj D.now ((f+k:Nat):Int)=bw then (ca D.now f kind k).2.2 else (ca D.now f kind k).2.2 ++ [(k:Int)])):=rfl;have hle:=lZ D.now f kind k;have hNl:=hown.1;generalize ca D.now f kind k=sc at *;obtain⟨op,nx,dl⟩:=sc;simp only at hown hjk hnx hle hNl;generalize cj D.now ((f+k:Nat):Int)=S at *;have hsl:Hid ((S.map bv).length=128):=by show _=_;rw[ay];exact hsl0
    have hsm:=aT (ew (l:=S));have HDk:=aT hdk;have HJk:=aT hjk;have Hown:=aT hown;have Hot:=aT hot;clear hot;have y0:=hjk.c0;have hkI:(k:Int)<m:=aS;have hnum:Hid ((eG S kind).1=if eT S kind then sg (ej S) else 0):=by show _=_;unfold eG;split <;> rfl
    have herr:Hid ((eG S kind).2.2=if eT S kind then 0 else 53):=by show _=_;unfold eG;split <;> rfl
    have hrec:Hid (recB S kind k=(eT S kind && decide (sg (ej S)=(k:Int)))):=rfl;have HSV:Hid (S.map bv=S.map bv):=rfl;unfold aggB at hrd hop hbl;generalize S.map bv=SV at *;generalize eG S kind=OV at *;obtain⟨Nn,L,er⟩:=OV;simp only at hnum herr hop;clear hdk hjk hown hsl0 hon hak eo;go_wp2_with (first | ((go_at_call 162;go_call (hrd) as e w2 ⟨rfl,h2,s2⟩);have HJ2:=aT (show dh w2 gj ga kind nx from HDk.out.blk HJk.out s2.tch aU);have H2:=aT h2;have o2:=aT (HDk.out.ow Hown.out s2.tch aU);clear h2) | (refine ev rfl (x:=.tmp 7) (y:=.tmp 27) rfl rfl rfl (t:=205) (cs:=Z) (xs:=SV) (Blk.top _ rfl rfl) Hi.out hsl.out gz hsm.out ?_;intro w3 hb3 hg3 hs3;rw[dW _ _ (hlz.out.trans hsl.out.symm)] at hb3;have b3:=eu ((Below.refl w2.heap.size w2).alloc aV _) hg3 aZ aZ;have HJ3:=aT (show dh w3 gj ga kind nx from Blk.below HJ2.out b3 HJ2.out.lt);have H3:=aT (H2.out.below b3);have o3:=aT (o2.out.below b3 aV);have S3:=hst.trans ((s2.mono (fun _ e=>aC _ e)).trans (Step.of_below b3 kL));have ot3:iw w w3 gj:=(fun g cs hne hb=>(by have q:=HDk.out.blk (Hot.out g cs hne hb) s2.tch aU;exact q.below b3 q.lt))) | fail);have r3:=Blk.range (o:=0) (n:=128) (xs:=SV) hb3 fX;have y31:=HJ3.out.c1;refine wp_region_held_drew (S:=fun w'=>w'.cell? ⟨gj,1,none⟩=some (I kind)/\w'.rangeAt w2.heap.size 0 SV) bQ ⟨y31,r3⟩ (fun hHeld=>?_);refine wpAnyH_take (i:=0) (v:=_) rfl bV bV bV (fun _ _ _ h=>h) (yieldsIf_load_mid (by rfl) _ _ rfl _ _ rfl SV _ (fun _ h=>h.2) Tryz.underlying205 rfl (by rw[hsl.out];exact Hi.out)) gP ?_;refine bK ?_;refine aW 1 ?_;refine aW 2 ?_;refine aW 3 ?_;refine aW 4 ?_ (hy:=Or.inl ⟨by rfl,dq⟩);refine bS 5 (fun K hK=>?_);go_simp
    (go_at_call 163;go_call (hop _) as e w4 ⟨B4,k4,d4,rfl,o4,hb4⟩)
    have b4:Below w3.heap.size w3 w4:=bB be hb4 aZ;have hb4b:=Blk.below hb3 b4 (Blk.lt hb3);have hj4:dh w4 gj ga kind nx:=Blk.below HJ3.out b4 HJ3.out.lt;have H4:=aT (H3.out.below b4);have o4':=aT (o3.out.below b4 aV);have sz3:base<=w3.heap.size:=by have:=S3.size;omega
    have S4:=S3.trans (Step.of_below b4 sz3);have ot4:Hid (iw w w4 gj):=fun g cs hne hb=>(ot3 g cs hne hb).below b4 (ot3 g cs hne hb).lt
    clear ot3;have y41:=hj4.c1;have y42:=hj4.c2;have y4f:=Blk.frozen hj4 2;have HJ4:=aT hj4;refine hK.out _ _ (⟨y41,Blk.range (o:=0) (n:=128) (xs:=SV) hb4b fX⟩) (fun hHeld=>?_);clear hK K;refine bK ?_;refine aW 6 ?_;refine aW 7 ?_;refine aW 8 ?_;refine aW 9 ?_;refine aW 10 ?_;refine aW 11 ?_;refine aW 12 ?_;refine wpAnyH_done bV ?_ _
    cases op with
    | false=>
      by_cases hS0:S=bw
      · have hbl':∀ w,Ca 164 #[.agg SV.toArray] w fun e w'=>e=.returned (.bool true)/\Below w.heap.size w w':=fun w=>(hbl w).mono fun e w' ⟨q1,q2⟩=>⟨by rw[q1,am hS0],q2⟩
        have HN:Hid (ca D.now f kind (k+1)=(false,nx,dl)):=by show _=_;rw[hnx.out,if_neg bj,if_pos hS0]
        clear hbl hS0;go_wp2_with (first | (refine fh rfl (x:=.tmp 7) rfl rfl hb4b Tryz.underlying205 Hi.out hsl.out fX ?_) | (go_at_call 164;go_call (hbl' _) as e w5 ⟨rfl,hb5⟩) | fail);go_roundw
        case rel=>
         have f1:=o4'.out.below hb5 aV;have f2:=H4.out.below hb5;have f3:dh w5 gj ga kind nx:=Blk.below HJ4.out hb5 HJ4.out.lt;have f4:=S4.trans (Step.of_below hb5 (by have:=S4.size;omega));have e1:Value.bool false=.bool (ca D.now f kind (k+1)).1:=by rw[HN.out]
         have e2:Ow iv w5 w.heap.size 3 B N c (ca D.now f kind (k+1)).2.2:=by rw[HN.out];exact f1
         have e3:dh w5 gj ga kind (ca D.now f kind (k+1)).2.1:=by rw[HN.out];exact f3
         have f5:iw w w5 gj:=fun g cs hne hb=>(ot4.out g cs hne hb).below hb5 (ot4.out g cs hne hb).lt
         first
          | exact⟨k+1,B,N,c,aS,by go_num,e1,rfl,e2,f2,e3,f4,f5⟩
          | ((repeat apply Exists.intro);exact⟨⟨k+1,B,N,c,aS,by go_num,e1,rfl,e2,f2,e3,f4,f5⟩,rfl⟩)
        case measure=>simp[intOf];omega
      · have hbl':∀ w,Ca 164 #[.agg SV.toArray] w fun e w'=>e=.returned (.bool false)/\Below w.heap.size w w':=fun w=>(hbl w).mono fun e w' ⟨q1,q2⟩=>⟨by rw[q1,ah hS0],q2⟩
        have HN:Hid (ca D.now f kind (k+1)=(false,nx,dl ++ [(k:Int)])):=by show _=_;rw[hnx.out,if_neg bj,if_neg hS0]
        have hszw:=S4.size;clear hbl hS0;go_wp2_with (first | (refine fh rfl (x:=.tmp 7) rfl rfl hb4b Tryz.underlying205 Hi.out hsl.out fX ?_) | ((go_at_call 164;go_call (hbl' _) as e w5 ⟨rfl,hb5⟩);have o5:=o4'.out.below hb5 aV;have b5s:=hb5.size) | (at_builtin;refine dF rfl rfl dV eS (s:=.tmp 62) (N:=N+1) (L:=dl ++ [(k:Int)]) rfl (o5.below (b:=w5.heap.size) be aZ) rfl (k:=[(k:Int)]) (Rd.of_block (l:=[(k:Int)]) (dy _ _ bj) rfl) rfl (rfl) bO aS aZ ?_;intro A6 c6 w6 hown6 hg6 hat6 hb6) | fail);go_roundw
        case rel=>
         have o5a:=o5.below (b:=w5.heap.size) ((Below.refl w5.heap.size w5).alloc aV (.cells #[I (k:Int)] 3)) aV;have bA:Below w5.heap.size w5 (w5.alloc (.cells #[I (k:Int)] 3)):=(Below.refl w5.heap.size w5).alloc aV _;have f2:=((H4.out.below hb5).below bA).grown o5a hg6 aU;have f3:dh w6 gj ga kind nx:=Blk.grown (Blk.below (Blk.below HJ4.out hb5 HJ4.out.lt) bA j8) hg6 (o5a.ne_ (Blk.below (Blk.below HJ4.out hb5 HJ4.out.lt) bA j8) aU);have f4:=((S4.trans (Step.of_below hb5 aS)).trans (Step.of_below bA aS)).then_below hb6 hs;have e1:Value.bool false=.bool (ca D.now f kind (k+1)).1:=by rw[HN.out]
         have e2:Ow iv w6 w.heap.size 3 A6 (N+1) c6 (ca D.now f kind (k+1)).2.2:=by rw[HN.out];exact hown6
         have e3:dh w6 gj ga kind (ca D.now f kind (k+1)).2.1:=by rw[HN.out];exact f3
         have f5:iw w w6 gj:=fun g cs hne hb=>(by
          have q:=((ot4.out g cs hne hb).below hb5 (ot4.out g cs hne hb).lt);have q2:=q.below bA q.lt;exact Blk.grown q2 hg6 (o5a.ne_ q2 aU))
         first
          | exact⟨k+1,A6,N+1,c6,aS,by go_num,e1,rfl,e2,f2,e3,f4,f5⟩
          | ((repeat apply Exists.intro);exact⟨⟨k+1,A6,N+1,c6,aS,by go_num,e1,rfl,e2,f2,e3,f4,f5⟩,rfl⟩)
        case measure=>simp[intOf];omega
    | true=>
      cases ho:eT S kind with
      | false=>
        have her:er=53:=by rw[herr.out,ho];rfl
        subst her
        by_cases hS0:S=bw
        · have hbl':∀ w,Ca 164 #[.agg SV.toArray] w fun e w'=>e=.returned (.bool true)/\Below w.heap.size w w':=fun w=>(hbl w).mono fun e w' ⟨q1,q2⟩=>⟨by rw[q1,am hS0],q2⟩
          have HN:Hid (ca D.now f kind (k+1)=(false,nx,dl)):=by show _=_;rw[hnx.out,if_neg (by rw[hrec.out,ho];simp),if_pos hS0]
          clear hbl hS0;go_wp2_with (first | (refine fh rfl (x:=.tmp 7) rfl rfl hb4b Tryz.underlying205 Hi.out hsl.out fX ?_) | (go_at_call 164;go_call (hbl' _) as e w5 ⟨rfl,hb5⟩) | fail);go_roundw
          case rel=>
           have f1:=o4'.out.below hb5 aV;have f2:=H4.out.below hb5;have f3:dh w5 gj ga kind nx:=Blk.below HJ4.out hb5 HJ4.out.lt;have f4:=S4.trans (Step.of_below hb5 (by have:=S4.size;omega));have e1:Value.bool false=.bool (ca D.now f kind (k+1)).1:=by rw[HN.out]
           have e2:Ow iv w5 w.heap.size 3 B N c (ca D.now f kind (k+1)).2.2:=by rw[HN.out];exact f1
           have e3:dh w5 gj ga kind (ca D.now f kind (k+1)).2.1:=by rw[HN.out];exact f3
           have f5:iw w w5 gj:=fun g cs hne hb=>(ot4.out g cs hne hb).below hb5 (ot4.out g cs hne hb).lt
           first
            | exact⟨k+1,B,N,c,aS,by go_num,e1,rfl,e2,f2,e3,f4,f5⟩
            | ((repeat apply Exists.intro);exact⟨⟨k+1,B,N,c,aS,by go_num,e1,rfl,e2,f2,e3,f4,f5⟩,rfl⟩)
          case measure=>simp[intOf];omega
        · have hbl':∀ w,Ca 164 #[.agg SV.toArray] w fun e w'=>e=.returned (.bool false)/\Below w.heap.size w w':=fun w=>(hbl w).mono fun e w' ⟨q1,q2⟩=>⟨by rw[q1,ah hS0],q2⟩
          have HN:Hid (ca D.now f kind (k+1)=(false,nx,dl ++ [(k:Int)])):=by show _=_;rw[hnx.out,if_neg (by rw[hrec.out,ho];simp),if_neg hS0]
          have hszw:=S4.size;clear hbl hS0;go_wp2_with (first | (refine fh rfl (x:=.tmp 7) rfl rfl hb4b Tryz.underlying205 Hi.out hsl.out fX ?_) | ((go_at_call 164;go_call (hbl' _) as e w5 ⟨rfl,hb5⟩);have o5:=o4'.out.below hb5 aV;have b5s:=hb5.size) | (at_builtin;refine dF rfl rfl dV eS (s:=.tmp 62) (N:=N+1) (L:=dl ++ [(k:Int)]) rfl (o5.below (b:=w5.heap.size) be aZ) rfl (k:=[(k:Int)]) (Rd.of_block (l:=[(k:Int)]) (dy _ _ bj) rfl) rfl (rfl) bO aS aZ ?_;intro A6 c6 w6 hown6 hg6 hat6 hb6) | fail);go_roundw
          case rel=>
           have o5a:=o5.below (b:=w5.heap.size) ((Below.refl w5.heap.size w5).alloc aV (.cells #[I (k:Int)] 3)) aV;have bA:Below w5.heap.size w5 (w5.alloc (.cells #[I (k:Int)] 3)):=(Below.refl w5.heap.size w5).alloc aV _;have f2:=((H4.out.below hb5).below bA).grown o5a hg6 aU;have f3:dh w6 gj ga kind nx:=Blk.grown (Blk.below (Blk.below HJ4.out hb5 HJ4.out.lt) bA j8) hg6 (o5a.ne_ (Blk.below (Blk.below HJ4.out hb5 HJ4.out.lt) bA j8) aU);have f4:=((S4.trans (Step.of_below hb5 aS)).trans (Step.of_below bA aS)).then_below hb6 hs;have e1:Value.bool false=.bool (ca D.now f kind (k+1)).1:=by rw[HN.out]
           have e2:Ow iv w6 w.heap.size 3 A6 (N+1) c6 (ca D.now f kind (k+1)).2.2:=by rw[HN.out];exact hown6
           have e3:dh w6 gj ga kind (ca D.now f kind (k+1)).2.1:=by rw[HN.out];exact f3
           have f5:iw w w6 gj:=fun g cs hne hb=>(by
            have q:=((ot4.out g cs hne hb).below hb5 (ot4.out g cs hne hb).lt);have q2:=q.below bA q.lt;exact Blk.grown q2 hg6 (o5a.ne_ q2 aU))
           first
            | exact⟨k+1,A6,N+1,c6,aS,by go_num,e1,rfl,e2,f2,e3,f4,f5⟩
            | ((repeat apply Exists.intro);exact⟨⟨k+1,A6,N+1,c6,aS,by go_num,e1,rfl,e2,f2,e3,f4,f5⟩,rfl⟩)
          case measure=>simp[intOf];omega
      | true=>
        have her:er=0:=by rw[herr.out,ho];rfl
        have hnn:Nn=sg (ej S):=by rw[hnum.out,ho];rfl
        subst her
        by_cases hN:Nn=(k:Int)
        · have HN:Hid (ca D.now f kind (k+1)=(true,nx+1,dl)):=by show _=_;rw[hnx.out,if_pos ⟨rfl,by rw[hrec.out,ho,<- hnn,hN];simp⟩]
          have hNB:(Nn == (k:Int))=true:=by rw[hN];simp
          clear hN hnn ho;go_wp2;go_roundw
          case rel=>
           have hset:dh (w4.setCell ⟨gj,2,none⟩ (I ((nx:Int)+1))) gj ga kind (nx+1):=Blk.set_ HJ4.out 2 _;have st:Step mutJ base p w4 (w4.setCell ⟨gj,2,none⟩ (I ((nx:Int)+1))):=Step.one (ec _) HJ4.out (aM ..) hg (by have:=S4.size;omega);have f1:=Ow.setFar o4'.out HJ4.out aU 2 (I ((nx:Int)+1));have f2:br (w4.setCell ⟨gj,2,none⟩ (I ((nx:Int)+1))) base p (rdK D (k+1)):=by
            obtain⟨A9,c9,h9⟩:=H4.out;exact⟨A9,c9,h9.keep (F:=(·=gj)) (Keep.one (ec _)) (fun g hf e=>by
             subst e;rcases h9.foot_ty HJ4.out hf with q | q | q | q | q <;> exact absurd q aU)⟩
           have e1:Value.bool true=.bool (ca D.now f kind (k+1)).1:=by rw[HN.out]
           have e2:Ow iv (w4.setCell ⟨gj,2,none⟩ (I ((nx:Int)+1))) w.heap.size 3 B N c (ca D.now f kind (k+1)).2.2:=by rw[HN.out];exact f1
           have e3:dh (w4.setCell ⟨gj,2,none⟩ (I ((nx:Int)+1))) gj ga kind (ca D.now f kind (k+1)).2.1:=by rw[HN.out];exact hset
           first
            | exact⟨k+1,B,N,c,aS,by go_num,e1,rfl,e2,f2,e3,S4.trans st,fun g cs hne hb=>Blk.far (ot4.out g cs hne hb) (show g≠gj from hne) _⟩
            | ((repeat apply Exists.intro);exact⟨⟨k+1,B,N,c,aS,by go_num,e1,rfl,e2,f2,e3,S4.trans st,fun g cs hne hb=>Blk.far (ot4.out g cs hne hb) (show g≠gj from hne) _⟩,rfl⟩)
          case measure=>simp[intOf];omega
        · have hNB:(Nn == (k:Int))=false:=by rw[ae];exact hN
          have hc:¬ ((true=true)/\recB S kind k=true):=by rw[hrec.out,ho,<- hnn,ah hN];simp
          have HC:=aT hc;clear hN hnn ho hc
          by_cases hS0:S=bw
          · have hbl':∀ w,Ca 164 #[.agg SV.toArray] w fun e w'=>e=.returned (.bool true)/\Below w.heap.size w w':=fun w=>(hbl w).mono fun e w' ⟨q1,q2⟩=>⟨by rw[q1,am hS0],q2⟩
            have HN:Hid (ca D.now f kind (k+1)=(false,nx,dl)):=by show _=_;rw[hnx.out,if_neg (HC.out),if_pos hS0]
            clear hbl hS0;go_wp2_with (first | (refine fh rfl (x:=.tmp 7) rfl rfl hb4b Tryz.underlying205 Hi.out hsl.out fX ?_) | (go_at_call 164;go_call (hbl' _) as e w5 ⟨rfl,hb5⟩) | fail);go_roundw
            case rel=>
             have f1:=o4'.out.below hb5 aV;have f2:=H4.out.below hb5;have f3:dh w5 gj ga kind nx:=Blk.below HJ4.out hb5 HJ4.out.lt;have f4:=S4.trans (Step.of_below hb5 (by have:=S4.size;omega));have e1:Value.bool false=.bool (ca D.now f kind (k+1)).1:=by rw[HN.out]
             have e2:Ow iv w5 w.heap.size 3 B N c (ca D.now f kind (k+1)).2.2:=by rw[HN.out];exact f1
             have e3:dh w5 gj ga kind (ca D.now f kind (k+1)).2.1:=by rw[HN.out];exact f3
             have f5:iw w w5 gj:=fun g cs hne hb=>(ot4.out g cs hne hb).below hb5 (ot4.out g cs hne hb).lt
             first
              | exact⟨k+1,B,N,c,aS,by go_num,e1,rfl,e2,f2,e3,f4,f5⟩
              | ((repeat apply Exists.intro);exact⟨⟨k+1,B,N,c,aS,by go_num,e1,rfl,e2,f2,e3,f4,f5⟩,rfl⟩)
            case measure=>simp[intOf];omega
          · have hbl':∀ w,Ca 164 #[.agg SV.toArray] w fun e w'=>e=.returned (.bool false)/\Below w.heap.size w w':=fun w=>(hbl w).mono fun e w' ⟨q1,q2⟩=>⟨by rw[q1,ah hS0],q2⟩
            have HN:Hid (ca D.now f kind (k+1)=(false,nx,dl ++ [(k:Int)])):=by show _=_;rw[hnx.out,if_neg (HC.out),if_neg hS0]
            have hszw:=S4.size;clear hbl hS0;go_wp2_with (first | (refine fh rfl (x:=.tmp 7) rfl rfl hb4b Tryz.underlying205 Hi.out hsl.out fX ?_) | ((go_at_call 164;go_call (hbl' _) as e w5 ⟨rfl,hb5⟩);have o5:=o4'.out.below hb5 aV;have b5s:=hb5.size) | (at_builtin;refine dF rfl rfl dV eS (s:=.tmp 62) (N:=N+1) (L:=dl ++ [(k:Int)]) rfl (o5.below (b:=w5.heap.size) be aZ) rfl (k:=[(k:Int)]) (Rd.of_block (l:=[(k:Int)]) (dy _ _ bj) rfl) rfl (rfl) bO aS aZ ?_;intro A6 c6 w6 hown6 hg6 hat6 hb6) | fail);go_roundw
            case rel=>
             have o5a:=o5.below (b:=w5.heap.size) ((Below.refl w5.heap.size w5).alloc aV (.cells #[I (k:Int)] 3)) aV;have bA:Below w5.heap.size w5 (w5.alloc (.cells #[I (k:Int)] 3)):=(Below.refl w5.heap.size w5).alloc aV _;have f2:=((H4.out.below hb5).below bA).grown o5a hg6 aU;have f3:dh w6 gj ga kind nx:=Blk.grown (Blk.below (Blk.below HJ4.out hb5 HJ4.out.lt) bA j8) hg6 (o5a.ne_ (Blk.below (Blk.below HJ4.out hb5 HJ4.out.lt) bA j8) aU);have f4:=((S4.trans (Step.of_below hb5 aS)).trans (Step.of_below bA aS)).then_below hb6 hs;have e1:Value.bool false=.bool (ca D.now f kind (k+1)).1:=by rw[HN.out]
             have e2:Ow iv w6 w.heap.size 3 A6 (N+1) c6 (ca D.now f kind (k+1)).2.2:=by rw[HN.out];exact hown6
             have e3:dh w6 gj ga kind (ca D.now f kind (k+1)).2.1:=by rw[HN.out];exact f3
             have f5:iw w w6 gj:=fun g cs hne hb=>(by
              have q:=((ot4.out g cs hne hb).below hb5 (ot4.out g cs hne hb).lt);have q2:=q.below bA q.lt;exact Blk.grown q2 hg6 (o5a.ne_ q2 aU))
             first
              | exact⟨k+1,A6,N+1,c6,aS,by go_num,e1,rfl,e2,f2,e3,f4,f5⟩
              | ((repeat apply Exists.intro);exact⟨⟨k+1,A6,N+1,c6,aS,by go_num,e1,rfl,e2,f2,e3,f4,f5⟩,rfl⟩)
            case measure=>simp[intOf];omega
  · have hk9:k=m:=aS;subst hk9;have HDk:=aT hdk;have HJk:=aT hjk;have HS:=aT hst;clear hdk hjk hst;go_wp2;rw[Exit.noGoto_ret];go_ret2;exact⟨B,N,c,rfl,hown,HDk.out,HJk.out,HS.out,hot⟩
theorem jread_off (h:dh w gj ga kind 0)(hd:br w base p D)(hs:base<=w.heap.size)(ha:bE w ga p.d f m)(hm:1<=m)(hfm:f+m<=D.many)(hoff:D.off=true)(hok:D.Ok) :
 Ca 293 #[.pointer (some ⟨gj,0,none⟩)] w fun e w'=>e=.returned (.tuple #[.slice none 0 0,I 50])/\br w' base p D/\Step mutD base p w w':=by
 have c0:=h.c0;have hmany:=iu ha;have hz:=(zero_of_info dI).1;have Hi:=aT (zero_of_info dI).2;have hlz:Hid ((bw.map bv).length=128):=by show _=_;simp[dQ]
 have HZm:=aT (ew (l:=bw));have hm4:f+m<=4096:=by have:=hok.many1;omega
 have hon:bN D f m 0=(D,bw,50):=by
  have hmay:mayV D ((f:Int)+0)=50:=by unfold mayV;rw[hoff];rfl
  unfold bN eX;rw[if_neg aS,hmay,if_pos bj]
 have hrd:=kX hd hs ha hfm 0;rw[hon] at hrd;simp only at hrd;clear h hd ha hok hon;unfold aggB at *;generalize bw.map bv=Z at *;go_enter Tryz.func293,Tryz.ntmps293;go_wp2_with fail;go_step3;go_wp2_with fail;go_step3;go_wp2_with (first | (go_at_call 113;go_call (hmany) as e w1 ⟨rfl,rfl⟩) | fail);go_loopw [4,5,6,7,8,9,10,11,17] (fun _ _ _ _ _ _ _ _ i wr=>i=I 0/\wr=w) (fun _ _ _ _ _ _ _ _ i _=>m - (intOf i).toNat)
 case atStart=>exact⟨rfl,rfl⟩
 case round=>
  obtain⟨rfl,rfl⟩:=hrel;have hmI:(0:Int)<m:=aS;go_wp2_with (first | ((go_at_call 162;go_call (hrd) as e w2 ⟨rfl,h2,s2⟩);have H2:=aT h2;clear h2) | (refine ev rfl (x:=.tmp 7) (y:=.tmp 27) rfl rfl rfl (t:=205) (cs:=Z) (xs:=Z) (Blk.top _ rfl rfl) Hi.out hlz.out gz HZm.out ?_;intro w3 hb3 hg3 hs3;rw[dW _ _ rfl] at hb3;have b3:=eu ((Below.refl w2.heap.size w2).alloc aV _) hg3 aZ aZ) | fail);rw[Exit.noGoto_ret];go_ret2;exact⟨rfl,H2.out.below b3,s2.trans (Step.of_below b3 kL)⟩
theorem Step.noJrn (hb:Below w.heap.size w w1)(h:Step mutJ base p w1 w')(ho:iw w1 w' gj)(hg:w.heap.size<=gj)(hs:base<=w.heap.size):Step mutD base p w w':=by
 obtain⟨h1,F,hF,tF⟩:=h;refine⟨(hb.mono hs).trans h1,fun g=>F g/\∀ cs,¬ Blk w1 g 363 cs,⟨hF.os.trans hb.os,hF.tape.trans hb.tape,hF.output.trans hb.output,aj hb.size hF.size,fun k hk hn=>?_⟩,fun g t cs e hbk=>?_⟩
 · have e0:=hb.block k hk
   by_cases hfk:F k
   · have:∃ cs,Blk w1 k 363 cs:=by
      apply Classical.byContradiction;intro hno;exact hn ⟨hfk,fun cs hc=>hno ⟨cs,hc⟩⟩
     obtain⟨cs,hc⟩:=this;have:=ho k cs aS hc;unfold Blk at this hc;rw[this,<- hc];exact e0
   · rw[<- e0];exact hF.block k j9 hfk
 · have hb1:=hbk.below hb hbk.lt;rcases tF g t cs e.1 hb1 with q | q
   · rcases List.mem_cons.1 q with q | q
     · subst q;exact absurd hb1 (e.2 cs)
     · exact .inl q
   · exact .inr q
end
