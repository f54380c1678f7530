/- EngineAnew. -/
import Derived.Test.YtmeebofhlilcmaaGreatPr53
set_option maxRecDepth 100000
set_option maxHeartbeats 0
namespace Go.Proofs.YtmeebofhlilcmaaGreat
open Go.RowKit
theorem alloc_le (w:World)(o:Obj):w.heap.size<=(w.alloc o).heap.size:=((Below.refl w.heap.size w).alloc aW o).size
theorem crash_row (w:World)(cut:Nat)(h:cut<=255):RB (w.alloc (.cells #[.int .u8 (cut:Nat),.int .u8 128,.int .u8 (cut:Nat),.int .u8 128] 5)) (some ⟨w.heap.size,0,none⟩) 4 [UInt8.ofNat cut,128,UInt8.ofNat cut,128]:=by
 have e:(UInt8.ofNat cut).toNat=cut:=UInt8.toNat_ofNat_of_lt' jW;have e2:bv (UInt8.ofNat cut)=.int .u8 (cut:Nat):=by unfold bv;rw[e]
 refine (Rd.of_block (enc:=bv) (l:=[UInt8.ofNat cut,128,UInt8.ofNat cut,128]) (df _ _ a8) ?_).rb;simp only[List.map_cons,List.map_nil,e2]
 rfl
theorem crash_rests (w:World)(cut:Nat)(base:Nat):fD (w.alloc (.cells #[.int .u8 (cut:Nat),.int .u8 128,.int .u8 (cut:Nat),.int .u8 128] 5)) base 5 (some ⟨w.heap.size,0,none⟩):=fun g hg=>.inr ⟨_,by
 simp only[Option.map_some,Option.some.injEq] at hg;subst hg;exact Blk.top _ rfl rfl⟩
end Go.Proofs.YtmeebofhlilcmaaGreat
namespace Go.Proofs.YtmeebofhlilcmaaGreat.engineAnew
open Go.ChangeShapes Go.WideShapes Go.ChangeAt Go.RowKit
set_option linter.unusedVariables false
set_option linter.unusedSimpArgs false
theorem walk_out (A0:Option Addr)(n0 c0:Nat)(B:Option Addr)(k d:Nat)(cut:Int)(w:World)(hn:n0<=maxLen)(hk:k<=maxLen)(h:3968<n0\/8<k) :
 Ca 7 #[.slice A0 n0 c0,.slice B k d,.int .u8 cut] w fun e w'=>e=.returned (.bool true)/\Below w.heap.size w w':=by
 unfold maxLen at hn hk
 by_cases h1:3968<n0
 · clear h;go_enter Tryz.func7,Tryz.ntmps7;go_wp2_with (first | ((go_at_call 24;(with_reducible refine (awake38 _).mono ?_);rintro e w1 ⟨rfl,hb1⟩);have B1:=aT hb1;clear hb1) | fail);go_ret;exact⟨rfl,B1.out⟩
 · have h2:8<k:=aS;clear h;go_enter Tryz.func7,Tryz.ntmps7;go_wp2_with (first | ((go_at_call 24;(with_reducible refine (awake38 _).mono ?_);rintro e w1 ⟨rfl,hb1⟩);have B1:=aT hb1;clear hb1) | fail);go_ret;exact⟨rfl,B1.out⟩
theorem walk_main (A0:Option Addr)(n0 c0:Nat)(img:List UInt8)(B:Option Addr)(k d:Nat)(rows:List (List Int))(cut:Nat)(w:World)(hr0:RB w A0 n0 img)(hnc:n0<=c0)(hl:gN w B k rows)(hi:∀ L ∈ rows,eS L)(hn:n0<=3968)(hk:k<=8)(hcut:cut<=255) :
 Ca 7 #[.slice A0 n0 c0,.slice B k d,.int .u8 (cut:Nat)] w fun e w'=>e=.returned (.bool true)/\Below w.heap.size w w':=by
 have hlen:=hl.1;have hil:=hr0.1;have V:Env dS 10 2 31:=delay_env aS aS rfl aS aS;have hus:gH img<=31:=by unfold gH;omega
 have cL:=fun {W:World} (h:RB W A0 n0 img)=>(show Ca 41 #[.slice A0 n0 c0,I 31,I 31] W (LdPost W (ig 31 31 img (gH img))) from load_ok A0 n0 c0 img 31 31 W h hnc aS aS aS aS aS aS)
 have hrl:=rest_load (many:=31) (img:=img) aS aS aS;have hml:(ig 31 31 img (gH img)).many=31:=rfl;have cD:=fun (W:World)=>delay_any W
 have hG:=V.g;have HR0:=aT hr0;have HL:=aT hl;have HI:=aT hi;have HV:=aT V;have HRL:=aT hrl;have HML:=aT hml;have heq:=fun w=>run_eq_stat0 w
 have f1:=aT (show ∀ l:List Int,l.length=1->cd dS.ins l=true from fun l h=>delay_fits h);clear hr0 hl hi hil V hrl hml hus hnc;generalize ig 31 31 img (gH img)=D0 at *;generalize dS=P at *;go_enter Tryz.func7,Tryz.ntmps7;go_wp2_with (first | ((go_at_call 24;(with_reducible refine (awake38 _).mono ?_);rintro e w1 ⟨rfl,hb1⟩);have B1:=aT hb1;clear hb1) | fail);go_loopw [35] (fun i wr=>∃ j:Nat,j<=k/\i=I (j:Nat)/\Hid (∀ t L,t<j->rows[t]?=some L->L.length=1)/\wr=w1) (fun i _=>k - (intOf i).toNat)
 case atStart=>exact⟨0,aS,rfl,fun t L h=>absurd h aS,rfl⟩
 case round=>
  obtain⟨j,hj,rfl,hall,rfl⟩:=hrel
  by_cases hlt:j<k
  · obtain⟨b,o,Bi,ni,di,L,rfl,hbl,hcell,hrow,hri,hnm⟩:=(HL.out.below B1.out aW).at_ hlt;have hL1:=hri.1;unfold maxLen at hnm;have HROW:=aT hrow;clear hri hrow
    by_cases h1:ni=1
    · subst h1;have hnx:=aT (show ∀ t L,t<j+1->rows[t]?=some L->L.length=1 from fun t L' ht hL'=>by
       rcases az t j with q | q
       · exact hall.out t L' q hL'
       · have:=HROW.out;rw[show t=j by omega,this] at hL';injection hL' with e;rw[<- e];exact hL1)
      go_wp2_with fail;go_roundw
      case rel=>first
       | exact⟨j+1,aS,by go_num,hnx.out,(by trivial)⟩
       | ((repeat apply Exists.intro);exact⟨⟨j+1,aS,by go_num,hnx.out,(by trivial)⟩,rfl⟩)
      case measure=>simp[intOf];omega
    · have hne:((ni:Int) != 1)=true:=by rw[ag];omega
      go_wp2_with fail;go_ret;exact⟨rfl,B1.out⟩
  · have hk9:j=k:=aS;subst hk9;have hone:=aT (show ∀ L ∈ rows,L.length=1 from fun L hL=>by
     obtain⟨t,ht,e⟩:=List.getElem_of_mem hL;exact hall.out t L aS (by rw[ap ht,e]))
    have hRok:=aT (show eA P.ins rows from ⟨fun L hL=>f1.out L (hone.out L hL),fun L hL=>HI.out L hL⟩);clear hall
    rename World=>wq
    have s1:=B1.out.size;have hcut2:(cut:Int)<=9223372036854775807:=aS;have hmx:max (cut:Int) (-1)=(cut:Int):=aS;go_upto_region 20 with (first | ((go_at_call 41;(with_reducible refine (cL (HR0.out.below B1.out aW)).mono ?_);rintro e w2 ⟨q,rfl,d2,b2⟩);have D2:=aT d2;have B2:=aT (B1.out.trans (b2.mono s1));have z2:=b2.size;clear d2 b2) | ((go_at_call 42;(with_reducible refine (s_cut D2.out z2 (cut:Nat) hcut2).mono ?_);rintro e w3 ⟨rfl,d3,s3⟩);have D3:=aT d3;have B3:=aT (B2.out.trans (s3.bel.mono s1));have z3:=ah z2 s3.size;clear d3 s3) | ((go_at_call 26;(with_reducible refine (cD w3).mono ?_);rintro e w4 ⟨x4,rfl,px4,b4⟩);have D4:=aT (D3.out.below b4);have B4:=aT (B3.out.trans (b4.mono B3.out.size));have P4:=aT (px4 0).rd;have z4:=ah z3 b4.size;clear px4 b4) | ((go_at_call 27;(with_reducible refine (t_formatS HV.out D4.out (HRL.out.cutTo _ aS aS) HML.out z4 P4.out).mono ?_);rintro e w5 ⟨s5,zf,D5,rfl,d5,m5,f5⟩);have D5':=aT d5;have B5:=aT (B4.out.trans (s5.bel.mono s1));have z5:=ah z4 s5.size;have M5:=aT m5;have F5:=aT f5;clear d5 s5 m5 f5) | ((go_at_call 43;(with_reducible refine (s_crashR (D5'.out.below (w':=w5.alloc (.cells #[.int .u8 (cut:Nat),.int .u8 128,.int .u8 (cut:Nat),.int .u8 128] 5)) a9) (ah z5 (alloc_le w5 _)) _ 4 4 [UInt8.ofNat cut,128,UInt8.ofNat cut,128] (crash_row w5 cut hcut) (fun _=>crash_rests w5 cut _) aU).mono ?_);rintro e w6 ⟨rfl,d6,s6⟩);have D6:=aT d6;have B6:=aT (B5.out.trans ((show Below w5.heap.size w5 _ from a9).mono B5.out.size |>.trans (s6.bel.mono s1)));have z6:=ah (ah z5 (alloc_le w5 _)) s6.size;clear d6 s6) | ((go_at_call 26;(with_reducible refine (cD w6).mono ?_);rintro e w7 ⟨x7,rfl,px7,b7⟩);have D7:=aT (D6.out.below b7);have B7:=aT (B6.out.trans (b7.mono B6.out.size));have P7:=aT (px7 0).rd;have z7:=ah z6 b7.size;clear px7 b7) | ((go_at_call 27;(with_reducible refine (c_format HV.out D7.out (F5.out.crash _).1 ((F5.out.crash _).2.2.1.trans M5.out) (F5.out.crash _).2.1 z7 P7.out).mono ?_);rintro e w8 ⟨rfl,r8,s8⟩);have R8:=aT r8;have B8:=aT (B7.out.trans (s8.bel.mono s1));clear r8 s8) | ((go_at_call 26;(with_reducible refine (cD w8).mono ?_);rintro e w9 ⟨x9,rfl,px9,b9⟩);have R9:=aT (R8.out.below b9);have B9:=aT (B8.out.trans (b9.mono B8.out.size));have P9:=aT (px9 wq.heap.size);clear px9 b9) | ((go_at_call 25;(with_reducible refine (c_open HV.out R9.out P9.out aS rfl).mono ?_);rintro e w10 ⟨g10,rep10,rfl,o10,s10⟩);have O10:=aT o10;have B10:=aT (B9.out.trans (s10.bel.mono s1));clear o10 s10) | fail);go_wp2_with (first | ((go_at_call 29;(with_reducible refine (c_stat0 O10.out).mono ?_);rintro e w11 ⟨rfl,b11⟩);have O11:=aT (O10.out.below b11);have B11:=aT (B10.out.trans (b11.mono B10.out.size));clear b11) | fail);have cS:=aT (show ∀ (t:Nat) (l:List Int),rows[t]?=some l->∀ (W:World) (A:Option Addr) (n dd:Nat),RI W A n l->n<=maxLen->StOn W wq.heap.size q g10 P 10 (0+2000) 2 31 true (rows.take t) 0 rep10 ->
     Ca 31 #[.pointer (some ⟨g10,0,none⟩),.slice A n dd] W fun e' w'=>e'=.returned (.tuple #[I (t:Nat),I 0])/\StOn w' wq.heap.size q g10 P 10 (0+2000) 2 31 true (rows.take (t+1)) 0 rep10/\Step mutE wq.heap.size q W w' from by
     intro t l hl W A n dd hri hn hO;have hm:=List.mem_of_getElem? hl;have ht:t<rows.length:=(List.getElem?_eq_some_iff.1 hl).1;have htl:(rows.take t).length=t:=by rw[aA];omega
     have:=mz HV.out hO A n dd l hri hn (HI.out l hm) (hRok.out.fits l hm) (by rw[htl];omega);rw[htl,show rows.take t ++ [l]=rows.take (t+1) from by rw[List.take_add_one,hl];rfl] at this;exact this)
    have HTL:=aT (show rows.take j=rows from au aS);have HT0:=aT (show rows.take 0=[] from rfl);have delay_P:=cD;clear cL cD R8 R9 P9 P7 P4 D2 D3 D4 D5' D6 D7 F5 M5 HRL HML;clear heq;go_loopw [82] (fun i wr=>∃ t:Nat,t<=j/\i=I (t:Nat)/\Hid (StOn wr wq.heap.size q g10 P 10 (0+2000) 2 31 true (rows.take t) 0 rep10)/\Hid (Below w.heap.size w wr)) (fun i _=>j - (intOf i).toNat)
    case atStart=>exact⟨0,aS,rfl,(by rw[HT0.out];exact O11.out),B11.out⟩
    case round=>
     clear O11 B11 O10;obtain⟨t,ht,rfl,hO,hB⟩:=hrel
     by_cases hlt:t<j
     · obtain⟨b,o,Bi,ni,di,L,rfl,hbl,hcell,hrow,hri,hnm⟩:=(HL.out.below hB.out aW).at_ hlt;have ct:=cS.out t L hrow wr Bi ni di hri hnm hO.out;have HX1:=aT hrow;clear hri hrow;go_wp2_with (first | ((go_at_call 31;(with_reducible refine (ct).mono ?_);rintro e w12 ⟨rfl,o12,s12⟩);have O12:=aT o12;have B12:=aT (hB.out.trans (s12.bel.mono s1));clear o12 s12) | fail);go_roundw
       case rel=>first
        | exact⟨t+1,aS,by go_num,O12.out,B12.out⟩
        | ((repeat apply Exists.intro);exact⟨⟨t+1,aS,by go_num,O12.out,B12.out⟩,rfl⟩)
       case measure=>simp[intOf];omega
     · have hk9:t=j:=aS;subst hk9;clear cS;have O13:=aT (show StOn wr wq.heap.size q g10 P 10 (0+2000) 2 31 true rows 0 rep10 from by have:=hO.out;rw[HTL.out] at this;exact this);have cR:=c_run HV.out O13.out (t:Nat) aS aS t aS;go_upto_region 32 with (first | ((go_at_call 33;(with_reducible refine (cR).mono ?_);rintro e w14 ⟨rfl,o14,s14⟩);rw[aB t] at o14;have O14:=aT o14;have B14:=aT (hB.out.trans (s14.bel.mono s1));clear o14 s14) | ((go_at_call 34;(with_reducible refine (outputs_any HV.out O14.out).mono ?_);rintro e w15 ⟨A15,c15,rfl,r15,o15,s15⟩);have O15:=aT o15;have R15:=aT r15;have B15:=aT (B14.out.trans (s15.bel.mono s1));clear o15 s15 r15) | ((go_at_call 26;(with_reducible refine (delay_P w15).mono ?_);rintro e w16 ⟨x16,rfl,px16,b16⟩);have R16:=aT (R15.out.below b16);have B16:=aT (B15.out.trans (b16.mono B15.out.size));have P16:=aT (px16 0).rd;clear px16 b16) | ((go_at_call 35;(with_reducible refine (refrows_any hG hRok.out P16.out B t d (HL.out.below B16.out aW) aS).mono ?_);rintro e w17 ⟨A17,c17,A18,n18,c18,rfl,r17,o17,b17⟩);have R17:=aT (R16.out.below b17);have Q17:=aT r17;have B17:=aT (B16.out.trans (b17.mono B16.out.size));clear r17 o17 b17) | fail);have hsame:=rowssame_any A15 A17 t t c15 c17 _ _ w17 R17.out.rd Q17.out.rd bI bI;rw[am (rfl:cE P rows t=cE P rows t)] at hsame;go_wp2_with (first | ((go_at_call 36;(with_reducible refine (hsame).mono ?_);rintro e w18 ⟨rfl,b18⟩);have B18:=aT (B17.out.trans (b18.mono B17.out.size));clear b18) | fail);go_ret;exact⟨rfl,B18.out⟩
theorem walk (w:World)(A0:Option Addr)(n0 c0:Nat)(l0:List UInt8)(r0:RB w A0 n0 l0)(nc0:n0<=c0)(cm0:c0<=maxLen)(v1:Value)(x1:∃ A n c l,v1=.slice A n c/\gN w A n l/\n<=c/\c<=maxLen/\∀ L ∈ l,eS L)(cut:Int)(wc:(Lit.int .u8 cut).wf=true) :
 Ca 7 #[.slice A0 n0 c0,v1,.int .u8 cut] w fun e w'=>e=.returned (.bool true)/\Below w.heap.size w w':=by
 obtain⟨B,k,d,rows,rfl,hl,hkd,hdm,hi⟩:=x1;have hb:=bounds_u8 wc
 by_cases h:3968<n0\/8<k
 · exact walk_out A0 n0 c0 B k d cut w aS aS h
 · obtain⟨c,rfl⟩:∃ c:Nat,cut=(c:Nat):=⟨cut.toNat,aS⟩;exact walk_main A0 n0 c0 l0 B k d rows c w r0 nc0 hl hi aS aS aS
theorem own:ownKnob Tryz.prog.godebug=none:=by kernel_rfl
theorem laidOut:laidOutB Tryz.prog=true:=by kernel_rfl
theorem lifted (os:Os)(started:os.Started)(H:Type)(enc:TypeId × Value->H) :
 ReturnsInHanded {} Tryz.checked os 7 .any (Rows.engineAnewSpec.pre6 enc Tryz.prog Tryz.f7 Rows.engineAnewRow.domain false) (Rows.engineAnewSpec.post enc Tryz.prog Tryz.f7 false true false false):=by
 refine returnsInHanded_of_change (C:=Tryz.checked) own started bO Tryz.func7
  (ChangeSpec.witness6 (enc:=enc) (C:=Tryz.checked) false ⟨#[],#[.slice none 0 0,.slice none 0 0,.int .u8 0],[]⟩ 8 bO bO bO bO) ?_
 intro W base args ds gs before hval0 hW hcnd _;have hval:∀ (j:Nat) t v,Tryz.f7.params[j]?=some t->args[j]?=some v->Value.okWide Tryz.prog W .any base t v:=hval0;have hW':=hW;obtain⟨p,q,hA0,hV,rfl,hfz,hnd⟩:=hW;have hA:DataW.TrodAll enc Tryz.prog W 0 (fun _=>true) true Tryz.f7.params.toList args.toList ds p:=hA0;rw[Tryz.params7] at hA hval;obtain⟨v0,pI,d0,ds0,p0,q0,hargs,rfl,rfl,h0,rr0⟩:=trodAll_cons hA;obtain⟨v1,pJ,d1,ds1,p1,q1,rfl,rfl,rfl,h1,rr1⟩:=trodAll_cons rr0;obtain⟨v2,pK,d2,ds2,p2,q2,rfl,rfl,rfl,h2,rr2⟩:=trodAll_cons rr1;obtain⟨rfl,rfl,rfl⟩:=trodAll_nil rr2;obtain rfl:args=#[v0,v1,v2]:=by cases args;simp_all
 obtain⟨rfl,rfl⟩:=trodVars_none hV;have k0:=h0;have lt0:∀ x ∈ p0,x.block<W.heap.size:=by obtain⟨m,hm⟩:=k0;exact DataW.trod_lt m _ _ _ hm
 obtain⟨A0,n0,c0,l0,rfl,r0,nc0,cm0⟩:=args_bytes Tryz.underlying27 Tryz.underlying5 bO (hval 0 27 v0 rfl rfl) h0;have k1:=h1;have lt1:∀ x ∈ p1,x.block<W.heap.size:=by obtain⟨m,hm⟩:=k1;exact DataW.trod_lt m _ _ _ hm
 have x1:=args_rows (hval 1 57 v1 rfl rfl) h1;have k2:=h2;have lt2:∀ x ∈ p2,x.block<W.heap.size:=by obtain⟨m,hm⟩:=k2;exact DataW.trod_lt m _ _ _ hm
 obtain⟨a2,rfl,wf2⟩:=args_int Tryz.underlying5 (hval 2 5 v2 rfl rfl) h2;clear hA0 hval0;refine (walk W A0 n0 c0 l0 r0 nc0 cm0 v1 x1 a2 wf2).mono fun e W' ⟨he,bel⟩=>?_
 subst he;exact⟨_,rfl,_,_,_,[],_,[],hW',trodAll_mk1 (shut_bool Tryz.underlying4 _),(trodAll_cons_mk (Below.trod laidOut bO (of_decide_eq_true bO) k0 bel lt0) (trodAll_cons_mk (Below.trod laidOut bO (of_decide_eq_true bO) k1 bel lt1) (trodAll_cons_mk (Below.trod laidOut bO (of_decide_eq_true bO) k2 bel lt2) trodAll_mk0))),rfl,bel.frame _,fun h=>by cases h⟩
theorem cInPlace:(Rows.engineAnewRow.inPlace == Tryz.prog.inPlace 7)=true:=by kernel_rfl
theorem cUnfollowed:(Rows.engineAnewRow.unfollowed == Tryz.prog.unfollowed 7)=true:=by kernel_rfl
theorem cRecurses:(Rows.engineAnewRow.recurses == Tryz.prog.recurses 7)=true:=by kernel_rfl
theorem cNamed:(Rows.engineAnewRow.named == Tryz.prog.varsNamed 7)=true:=by kernel_rfl
theorem closed:joinedFacts Tryz.prog 7 Tryz.f7 Rows.engineAnewSpec Rows.engineAnewRow=true:=by
 unfold joinedFacts;rw[cInPlace,cUnfollowed,cRecurses,cNamed]
 kernel_rfl
theorem over:Rows.engineAnewRow.holds Tryz.pinned (OpenSpec.ofChange Rows.engineAnewSpec) :=
 OpenClaim.holds_of_wide 7 Tryz.f7 rfl rfl rfl rfl rfl rfl rfl ⟨rfl,rfl,rfl,rfl,rfl⟩ rfl rfl rfl rfl rfl bO Tryz.func7 closed
  (of_decide_eq_true bO) (by unfold Func.isWrapper;first | (rw[if_pos bP];kernel_rfl) | (rw[if_neg bP];exact⟨rfl,rfl⟩))
  (fun os started H enc _=>lifted os started H enc)
theorem proved:Rows.EngineAnewSaid:=over
end Go.Proofs.YtmeebofhlilcmaaGreat.engineAnew
