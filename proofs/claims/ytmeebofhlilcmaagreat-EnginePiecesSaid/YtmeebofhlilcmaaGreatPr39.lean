/- Parts. -/
import Derived.Test.YtmeebofhlilcmaaGreatPr38
set_option linter.unusedVariables false
set_option linter.unusedSimpArgs false
set_option maxRecDepth 100000
set_option maxHeartbeats 0
namespace Go.Proofs.YtmeebofhlilcmaaGreat
open Go.RowKit
theorem wipeV_few (D:aY)(f m a k:Nat):(cU D f m a k).1.many=D.many/\(cU D f m a k).1.waits.length<=D.waits.length+k:=by
 obtain⟨o,eo⟩:=gI D k;obtain⟨h1,h2⟩:=pE f m (ei D.now f a k) (rdK D k);have h3:=pN D.now f a k;have hm:(rdK D k).many=D.many:=by rw[eo]
 have hw:(rdK D k).waits=D.waits:=by rw[eo]
 rw[hw] at h2;obtain⟨f1,f2⟩:=nW (dS (rdK D k) f m (ei D.now f a k)).1;unfold cU
 split
 · exact⟨rfl,Nat.le_add_right _ _⟩
 unfold wipeW
 split
 · exact⟨h1.trans hm,aS⟩
 split
 · exact⟨h1.trans hm,by simp only;omega⟩
 · exact⟨f1.trans (h1.trans hm),aS⟩
structure fJ (w0 W:World)(base:Nat)(q:bJ)(gb gh gf ga M:Nat)(hash:Int)(D:aY):Prop where
 d:br W base q D
 a:bE W ga q.d 0 M
 b8:Blk W gb 188 [.pointer (some ⟨ga,0,none⟩)]
 b6:Blk W gh 3 [I hash]
 bf:Blk W gf 61 (fmtL (.pointer (some ⟨gb,0,none⟩)) (.pointer (some ⟨gh,0,none⟩)) (.pointer (some ⟨ga,0,none⟩)))
 s:Step mutD base q w0 W
 hs:base<=W.heap.size
section
variable {w0 w W W':World} {base gb gh gf ga M m:Nat} {q:bJ} {D D':aY} {hash:Int} {p:PV} {x:PA}
theorem fJ.step (h:fJ w0 W base q gb gh gf ga M hash D)(hd:br W' base q D')(t:Step mutD base q W W'):fJ w0 W' base q gb gh gf ga M hash D' :=
 ⟨hd,h.d.area h.a t.tch aU,h.d.blk h.b8 t.tch aU,h.d.blk h.b6 t.tch aU,h.d.blk h.bf t.tch aU,h.s.trans t,aj h.hs t.size⟩
theorem fmt1_any (h:fJ w0 W base q gb gh gf ga M hash D)(hM:1<=M)(hMm:M<=D.many)(hwt:D.waits.length<700000) :
 Ca 110 #[.pointer (some ⟨gb,0,none⟩)] W fun e w'=>e=.returned (I (cU D 0 M 0 1).2)/\fJ w0 w' base q gb gh gf ga M hash (cU D 0 M 0 1).1:=by
 have c0:=h.b8.c0;have hw:=(show Ca 111 #[.pointer (some ⟨ga,0,none⟩),I 0,I 1] W _ from wipe_any h.a h.d h.hs aS 0 1 aS aS hwt);have H:=aT h;generalize cU D 0 M 0 1=F at *;clear h;go_enter Tryz.func110,Tryz.ntmps110;go_wp2_with (first | ((go_at_call 111;(with_reducible refine (hw).mono ?_);rintro e w2 ⟨rfl,d2,s2⟩);have H2:=aT (H.out.step d2 s2);clear d2) | fail);go_ret;exact⟨rfl,H2.out⟩
theorem fmt2_any (h:fJ w0 W base q gb gh gf ga M hash D)(hM:2<=M)(hMm:M<=D.many)(hwt:D.waits.length<700000) :
 Ca 112 #[.pointer (some ⟨gb,0,none⟩)] W fun e w'=>e=.returned (I (cU D 0 M 1 (M - 1)).2)/\fJ w0 w' base q gb gh gf ga M hash (cU D 0 M 1 (M - 1)).1:=by
 have c0:=h.b8.c0;have hb:Below W.heap.size W W.drew:=Below.drew (Below.refl _ _);have hD:=h.step (h.d.below hb) (Step.of_below hb h.hs);have hw:Ca 111 #[.pointer (some ⟨ga,0,none⟩),I 1,I (M:Nat)] W.drew (fun e w'=>e=.returned (I (cU D 0 M 1 (M - 1)).2)/\br w' base q (cU D 0 M 1 (M - 1)).1/\Step mutD base q W.drew w'):=by
  have:=wipe_any hD.a hD.d hD.hs aS 1 (M - 1) aS aS hwt;rw[show 1+(M - 1)=M by omega] at this;exact this
 have hmn:=iu (w:=W.drew) hD.a;have H:=aT hD;generalize cU D 0 M 1 (M - 1)=F at *;clear h hD;go_enter Tryz.func112,Tryz.ntmps112;go_upto_region 1 with fail;go_region_held3 (fun w'=>w'.cell? ⟨gb,0,none⟩=some (.pointer (some ⟨ga,0,none⟩))) (first | go_keep | assumption) (first | (go_at_call 113;(with_reducible refine (hmn).mono ?_);rintro e w1 ⟨rfl,rfl⟩) | ((go_at_call 111;(with_reducible refine (hw).mono ?_);rintro e w2 ⟨rfl,d2,s2⟩);have H2:=aT (H.out.step d2 s2);have c02:=H2.out.b8.c0;clear d2) | fail);go_wp2_with fail;go_ret;exact⟨rfl,H2.out⟩
theorem fmt3_any (h:fJ w0 W base q gb gh gf ga M hash D)(hMm:M<=D.many)(hh:hash<=9223372036854775807)(hwt:D.waits.length<700000) :
 Ca 114 #[.pointer (some ⟨gb,0,none⟩),.pointer (some ⟨gh,0,none⟩)] W fun e w'=>e=.returned (I (cK D 0 M 0 1 hash []).2)/\fJ w0 w' base q gb gh gf ga M hash (cK D 0 M 0 1 hash []).1:=by
 have c0:=h.b8.c0;have c6:=h.b6.c0;have hw:=s_aput h.d h.hs h.a aS 0 1 hash none 0 0 [] ⟨rfl,Row.nil _ _ _⟩ bO hh aS;have H:=aT h;generalize cK D 0 M 0 1 hash []=F at *;clear h;go_enter Tryz.func114,Tryz.ntmps114;go_wp2_with (first | ((go_at_call 115;(with_reducible refine (hw).mono ?_);rintro e w2 ⟨rfl,d2,s2⟩);have H2:=aT (H.out.step d2 s2);clear d2) | fail);go_ret;exact⟨rfl,H2.out⟩
theorem fmt4_any (h:fJ w0 W base q gb gh gf ga M hash D) :
 Ca 116 #[.pointer (some ⟨ga,0,none⟩)] W fun e w'=>e=.returned (I (bI D).2)/\fJ w0 w' base q gb gh gf ga M hash (bI D).1 :=
 (jO h.d h.hs h.a).mono fun e w' ⟨h1,h2,h3⟩=>⟨h1,h.step h2 h3⟩
theorem format_any (hd:br w base q D)(hs:base<=w.heap.size)(hp:bZ w x p)(hw:eN p)(hv:dG p=true)(h13:13<=D.many)(hm:logN (D.many:Nat)=(m:Nat))(hM:11+m+m<=D.many)(hwt:D.waits.length<600000) :
 Ca 27 #[.pointer (some ⟨q.d,0,none⟩),.agg #[.slice x.A1 x.n1 x.c1,.slice x.A2 x.n2 x.c2,I p.regs,.slice x.A3 x.n3 x.c3,.slice x.A4 x.n4 x.c4]] w fun e w'=>e=.returned (I (ic (11+m+m) (cw p:Nat) D).2)/\br w' base q (ic (11+m+m) (cw p:Nat) D).1/\Step mutD base q w w':=by
 have hb0:Below w.heap.size w (w.alloc (.cells #[.slice x.A1 x.n1 x.c1,.slice x.A2 x.n2 x.c2,I p.regs,.slice x.A3 x.n3 x.c3,.slice x.A4 x.n4 x.c4] 26)):=(Below.refl _ _).alloc aV _;have hmay:=may_yes (hd.below hb0) (hp.below (b:=w.heap.size) hb0 aV) hw hv h13 hm;have hhn:((cw p:Nat):Int)<=9223372036854775807:=by unfold cw;omega
 have hd4:=hd.many0;have HD:=aT hd;generalize cw p=hh at *;have hF:ic (11+m+m) (hh:Nat) D=if (cU D 0 (11+m+m) 0 1).2≠0 then cU D 0 (11+m+m) 0 1
  else if (cU (cU D 0 (11+m+m) 0 1).1 0 (11+m+m) 1 (11+m+m - 1)).2≠0 then cU (cU D 0 (11+m+m) 0 1).1 0 (11+m+m) 1 (11+m+m - 1)
  else if (cK (cU (cU D 0 (11+m+m) 0 1).1 0 (11+m+m) 1 (11+m+m - 1)).1 0 (11+m+m) 0 1 (hh:Nat) []).2≠0 then cK (cU (cU D 0 (11+m+m) 0 1).1 0 (11+m+m) 1 (11+m+m - 1)).1 0 (11+m+m) 0 1 (hh:Nat) []
  else bI (cK (cU (cU D 0 (11+m+m) 0 1).1 0 (11+m+m) 1 (11+m+m - 1)).1 0 (11+m+m) 0 1 (hh:Nat) []).1:=rfl
 obtain⟨a1,a2⟩:=wipeV_few D 0 (11+m+m) 0 1;obtain⟨b1,b2⟩:=wipeV_few (cU D 0 (11+m+m) 0 1).1 0 (11+m+m) 1 (11+m+m - 1);have f1:=fun (W:World) (gb gh gf ga:Nat) (h:fJ w W base q gb gh gf ga (11+m+m) (hh:Nat) D)=>fmt1_any h aS hM aS
 have f2:=fun (W:World) (gb gh gf ga:Nat) (h:fJ w W base q gb gh gf ga (11+m+m) (hh:Nat) (cU D 0 (11+m+m) 0 1).1)=>fmt2_any h aS aS aS
 have f3:=fun (W:World) (gb gh gf ga:Nat) (h:fJ w W base q gb gh gf ga (11+m+m) (hh:Nat) (cU (cU D 0 (11+m+m) 0 1).1 0 (11+m+m) 1 (11+m+m - 1)).1)=>fmt3_any h aS hhn aS
 generalize ic (11+m+m) (hh:Nat) D=FIN at *;generalize cU D 0 (11+m+m) 0 1=F1 at *;generalize cU F1.1 0 (11+m+m) 1 (11+m+m - 1)=F2 at *;generalize cK F2.1 0 (11+m+m) 0 1 (hh:Nat) []=F3 at *;have f4:=fun (W:World) (gb gh gf ga:Nat) (h:fJ w W base q gb gh gf ga (11+m+m) (hh:Nat) F3.1)=>fmt4_any h
 generalize bI F3.1=F4 at *;have HF:=aT hF;have hcast:((11+m+m:Nat):Int)=11+(m:Int)+m:=aS;have hnw:=fun (W:World) (h:br W base q D) (hs':base<=W.heap.size)=>s_anew h hs' 0 (11+m+m) aS aS
 rw[hcast] at hnw;have hnw2:∀ (W:World),br W base q D->base<=W.heap.size->Ca 109 #[.pointer (some ⟨q.d,0,none⟩),.agg #[I 0,I (11+(m:Int)+m)]] W fun e w'=>∃ ga,e=.returned (.tuple #[.pointer (some ⟨ga,0,none⟩),I 0])/\bE w' ga q.d 0 (11+m+m)/\W.heap.size<=ga/\br w' base q D/\Step mutD base q W w':=hnw
 clear hF a1 a2 b1 b2 hd hp hcast hnw;go_enter Tryz.func27,Tryz.ntmps27;go_upto_region 7 with (first | ((go_at_call 99;(with_reducible refine (hmay).mono ?_);rintro e w2 ⟨rfl,hb2⟩);have B2:=hb0.trans (hb2.mono bj);have hsz2:=B2.size;have BW:=(B2.alloc hsz2 (.cells #[I 0,I 1,I 1,I 5,I 6,I 5,I 11,I (m:Nat),I (11+(m:Nat)),I (m:Nat)] 122)).alloc cO (.cells #[I (hh:Nat)] 3);have DW:=HD.out.below BW;have XW:Blk ((w2.alloc (.cells #[I 0,I 1,I 1,I 5,I 6,I 5,I 11,I (m:Nat),I (11+(m:Nat)),I (m:Nat)] 122)).alloc (.cells #[I (hh:Nat)] 3)) (w2.heap.size+1) 3 [I (hh:Nat)]:=Blk.top _ bj rfl) | ((go_at_call 109;(with_reducible refine (hnw2 _ DW cO).mono ?_);rintro e w3 ⟨ga,rfl,a3,gl3,d3,s3⟩);have X3:=DW.blk XW s3.tch aU;have sz3:=s3.size;simp at sz3;have S3:=(Step.of_below (M:=mutD) (p:=q) BW hs).trans s3) | fail);have A4:=aT (show fJ w ((w3.alloc (.cells #[.pointer (some ⟨ga,0,none⟩)] 188)).alloc (.cells (fmtL (.pointer (some ⟨w3.heap.size,0,none⟩)) (.pointer (some ⟨w2.heap.size+1,0,none⟩)) (.pointer (some ⟨ga,0,none⟩))).toArray 61)) base q w3.heap.size (w2.heap.size+1) (w3.heap.size+1) ga (11+m+m) (hh:Nat) D from
  ⟨(d3.below ((Below.refl _ _).alloc aV _)).below ((Below.refl _ _).alloc aV _),Blk.alloc (Blk.alloc a3 _) _,(Blk.top _ rfl rfl).alloc _,(X3.alloc _).alloc _,Blk.top _ bj rfl,S3.trans (Step.of_below (((Below.refl _ _).alloc aV _).alloc bj _) aS),by simp;omega⟩)
 have hfst:=first_fmt (w:=((w3.alloc (.cells #[.pointer (some ⟨ga,0,none⟩)] 188)).alloc (.cells (fmtL (.pointer (some ⟨w3.heap.size,0,none⟩)) (.pointer (some ⟨w2.heap.size+1,0,none⟩)) (.pointer (some ⟨ga,0,none⟩))).toArray 61))) A4.out.bf
  (fun W h=>fJ.bf h) (fun W h=>fJ.bf h) (fun W h=>fJ.bf h) (f1 _ _ _ _ _ A4.out) (fun _ W h=>f2 _ _ _ _ _ h) (fun _ _ W h=>f3 _ _ _ _ _ h) (fun _ _ _ W h=>f4 _ _ _ _ _ h)
 have hfin:=hfst.mono (R':=fun e w'=>e=.returned (I FIN.2)/\fJ w w' base q w3.heap.size (w2.heap.size+1) (w3.heap.size+1) ga (11+m+m) (hh:Nat) FIN.1) (fun e w' hp=>by
  have hF:=HF.out;rcases hp with ⟨n1,rfl,r⟩ | ⟨n1,n2,rfl,r⟩ | ⟨n1,n2,n3,rfl,r⟩ | ⟨n1,n2,n3,rfl,r⟩
  · rw[if_pos n1] at hF;rw[hF];exact⟨rfl,r⟩
  · rw[if_neg jn,if_pos n2] at hF;rw[hF];exact⟨rfl,r⟩
  · rw[if_neg jn,if_neg (by rw[n2];simp),if_pos n3] at hF;rw[hF];exact⟨rfl,r⟩
  · rw[if_neg jn,if_neg (by rw[n2];simp),if_neg (by rw[n3];simp)] at hF;rw[hF];exact⟨rfl,r⟩)
 clear f1 f2 f3 f4 XW X3 DW BW hnw2 hmay hfst;go_wp2_with (first | (go_at_call 100;refine hfin.mono ?_;rintro e w5 ⟨rfl,hpost⟩;have HP:=aT hpost;clear hpost) | fail);go_ret;exact⟨rfl,HP.out.d,HP.out.s⟩
end
def begV (p:PV)(E:EgV):EgV:={ E with cells:=if E.k.has then E.k.last.cells else es p,tick:=if E.k.has then E.k.last.tick else E.tick }
def ij (E:EgV):Int:=if gU E then 53 else 0
section
variable {w w':World} {base g m:Nat} {q:bJ} {D:aY} {e:EP} {p:PV} {hash pace:Int} {E:EgV}
theorem begin_any (h:cQ w base q g e m p hash pace E)(hk100:E.k.last.cells.length<=100)(hn3:p.cells.length<=100000)(hd:br w base q D)(hs:base<=w.heap.size) :
 Ca 107 #[.pointer (some ⟨g,0,none⟩)] w fun e' w'=>∃ A n c,e'=.returned (I (ij (begV p E)))/\EngS w w' base q g { e with A:=A,n:=n,c:=c } m p hash pace D (begV p E):=by
 obtain⟨c0,c1,c2,c3,c4,c5,c6,c7,c8,c9,c10⟩:=h.words;have X1:=EngX.of h hd (Step.refl mutE base q w) hs;have f4:=h.b.frozen 4;have gl:=h.b.lt;have hfi:=mfirst_any X1.r.mach hn3;have hla:=fun (W:World) (cs:List Value) (e1:EP) (l:List Int) (X:EngX w W base q g cs e1 m p hash D E.nIn E.nOut E.k l)=>klast_any X.r.kp hk100
 have HX1:=aT X1;clear X1 h hd;go_enter Tryz.func107,Tryz.ntmps107
 cases hh:E.k.has
 case' false=>
  have hE1:begV p E={ E with cells:=es p,tick:=E.tick }:=by unfold begV;rw[hh];rfl
  rw[hh] at hla;go_upto_region 2 with (first | ((go_at_call 169;(with_reducible refine (hfi).mono ?_);rintro e' w2 ⟨A2,n2',rfl,o2,b2⟩);have X2:=HX1.out.below b2;obtain⟨c0,c1,c2,c3,c4,c5,c6,c7,c8,c9,c10⟩:=(show cQ w2 base q g e m p hash pace E from ⟨X2.b,X2.gb,X2.r⟩).words;have f4:=X2.b.frozen 4;have gl:=X2.b.lt) | fail);have X4:=aT ((X2.cellsTo (c:=n2') (dx.of_ow o2)).set 4 (.slice A2 e.y.n3 n2'));have hla4:=hla _ _ _ _ X4.out;go_upto_region 5 with (first | ((go_at_call 118;(with_reducible refine (hla4).mono ?_);rintro e' w5 ⟨A5,n5,c5',rfl,o5,b5⟩);have X5:=X4.out.below b5) | fail);have X6:=aT (EngX.done (E:={ E with cells:=es p,tick:=E.tick }) (X5.below ((Below.refl _ _).alloc aV (.cells #[I (gM E.k).tick,I (gM E.k).hash,.slice A5 n5 c5'] 139))) rfl)
 case' true=>
  have hE1:begV p E={ E with cells:=E.k.last.cells,tick:=E.k.last.tick }:=by unfold begV;rw[hh];rfl
  have hlk:gM E.k=E.k.last:=by unfold gM;rw[hh];rfl
  rw[hh,hlk] at hla;go_upto_region 2 with (first | ((go_at_call 169;(with_reducible refine (hfi).mono ?_);rintro e' w2 ⟨A2,n2',rfl,o2,b2⟩);have X2:=HX1.out.below b2;obtain⟨c0,c1,c2,c3,c4,c5,c6,c7,c8,c9,c10⟩:=(show cQ w2 base q g e m p hash pace E from ⟨X2.b,X2.gb,X2.r⟩).words;have f4:=X2.b.frozen 4;have gl:=X2.b.lt) | fail);have X4:=aT ((X2.cellsTo (c:=n2') (dx.of_ow o2)).set 4 (.slice A2 e.y.n3 n2'));have hla4:=hla _ _ _ _ X4.out;go_upto_region 4 with (first | ((go_at_call 118;(with_reducible refine (hla4).mono ?_);rintro e' w5 ⟨A5,n5,c5',rfl,o5,b5⟩);have X5:=X4.out.below b5) | fail);have b6:Below w5.heap.size w5 (w5.alloc (.cells #[I E.k.last.tick,I E.k.last.hash,.slice A5 n5 c5'] 139)):=(Below.refl _ _).alloc aV _;have X6:=X5.below b6;have I6:=dx.of_ow (base:=base) (o5.below b6 aV);have S6:Blk (w5.alloc (.cells #[I E.k.last.tick,I E.k.last.hash,.slice A5 n5 c5'] 139)) w5.heap.size 139 [I E.k.last.tick,I E.k.last.hash,.slice A5 n5 c5']:=Blk.top _ rfl rfl;have X7:=X6.cellsTo (c:=c5') I6;refine dH (fun W=>EngX w W base q g ((engC e pace E).set 4 (.slice A2 e.y.n3 n2')) { e with A:=A5,n:=n5,c:=c5' } m p hash D E.nIn E.nOut E.k E.k.last.cells/\Blk W w5.heap.size 139 [I E.k.last.tick,I E.k.last.hash,.slice A5 n5 c5']) ⟨X7,S6⟩ ?_;clear X7 S6 I6 X6 b6 X5 X4 X2 hla4 hla hfi o5 b5 o2 b2 HX1 c0 c1 c2 c3 c4 c5 c6 c7 c8 c9 c10 f4 gl;generalize w5.heap.size=gs at *;rintro W ⟨X7,S6⟩;have f4:=X7.b.frozen 4;have f6:=X7.b.frozen 6;have gl:=X7.b.lt;have k4:=X7.b.c4;have k6:=X7.b.c6;have k0:=S6.c0;have k2:=S6.c2;have gne:=X7.b.ne_ S6 aU;have X8:=aT (((X7.set 6 (I E.k.last.tick)).set 4 (.slice A5 n5 c5')).below (Below.drew (Below.refl _ _)));have X9:=aT (((X7.set 4 (.slice A5 n5 c5')).set 6 (I E.k.last.tick)).below (Below.drew (Below.refl _ _)));clear X7;go_region;go_upto_region 5 with fail;have X6:=aT (EngX.done (E:={ E with cells:=E.k.last.cells,tick:=E.k.last.tick }) X8.out rfl);clear X8 X9
 all_goals
  refine dH (fun W=>EngS w W base q g _ m p hash pace D _) X6.out ?_;rw[<- hE1];obtain⟨E1,hE1v⟩:∃ E1,begV p E=E1:=⟨_,rfl⟩;have HE1:=aT hE1v;rw[hE1v];clear hE1v hE1;intro W X;obtain⟨v0,v1,v2,v3,v4,v5,v6,v7,v8,v9,v10⟩:=(X.i.below (Below.drew (Below.refl _ _))).words;have hld:=lv (X.i.r.below (Below.drew (Below.refl _ _))).inn;have hlo:=nX (X.i.r.below (Below.drew (Below.refl _ _))).out;have XD:=aT (EngX.done ((EngX.of X.i X.d X.s (aj hs X.s.size)).below (Below.drew (Below.refl _ _))) rfl)
  by_cases q1:(E1.nIn:Int)<E1.tick
  · have HB:=aT (show gU E1 from .inl q1);have d1:decide (E1.tick > (E1.nIn:Int))=true:=am q1;clear q1;go_upto_region 5 with fail;refine wp_region_held_drew (S:=fun w'=>w'.cell? ⟨g,6,none⟩=some (I E1.tick)/\w'.cell? ⟨g,1,none⟩=some (.pointer (some ⟨e.gi,0,none⟩))/\w'.cell? ⟨g,2,none⟩=some (.pointer (some ⟨e.go,0,none⟩))) bQ ⟨v6,v1,v2⟩ (fun hHeld=>?_);refine aW 0 ?_;refine aW 1 ?_;refine aW 2 ?_;refine aW 3 ?_ (hy:=Or.inl ⟨by rfl,eU⟩);refine aW 4 ?_;refine aW 5 ?_;refine aW 6 ?_;refine aW 7 ?_ (hy:=Or.inl ⟨by rfl,eU⟩);refine bS 8 (fun K hK=>?_);go_simp
    (go_at_call 119;(with_reducible refine (hld).mono ?_);rintro e' w8 ⟨rfl,rfl⟩)
    refine hK.out _ _ (⟨v6,v1,v2⟩) (fun hHeld=>?_);clear hK K;refine bK ?_;refine aW 9 ?_;refine aW 10 ?_;refine bD 11 ?_;refine bD 12 ?_;refine bD 13 ?_;refine bD 14 ?_;refine bD 15 ?_;refine bD 16 ?_;refine bD 17 ?_;refine bD 18 ?_;refine bD 19 ?_;refine bD 20 ?_;refine aW 21 ?_;refine aW 22 ?_;refine bD 23 ?_;refine bD 24 ?_;refine bD 25 ?_;refine bD 26 ?_;refine bD 27 ?_;refine bD 28 ?_;refine bD 29 ?_;refine bD 30 ?_;refine bD 31 ?_;refine bD 32 ?_;refine bD 33 ?_;refine aW 34 ?_;refine wpAnyH_done bV ?_ _;go_wp2_with fail;go_ret;rw[HE1.out,show ij E1=53 from if_pos HB.out]
    first | exact⟨_,_,_,rfl,XD.out⟩ | exact⟨rfl,_,_,_,XD.out⟩
  by_cases q2:(E1.nOut:Int)<E1.tick
  · have HB:=aT (show gU E1 from .inr (.inl q2));have d1:decide (E1.tick > (E1.nIn:Int))=false:=ah q1;have d2:decide (E1.tick > (E1.nOut:Int))=true:=am q2;clear q1 q2;go_upto_region 5 with fail;refine wp_region_held_drew (S:=fun w'=>w'.cell? ⟨g,6,none⟩=some (I E1.tick)/\w'.cell? ⟨g,1,none⟩=some (.pointer (some ⟨e.gi,0,none⟩))/\w'.cell? ⟨g,2,none⟩=some (.pointer (some ⟨e.go,0,none⟩))) bQ ⟨v6,v1,v2⟩ (fun hHeld=>?_);refine aW 0 ?_;refine aW 1 ?_;refine aW 2 ?_;refine aW 3 ?_ (hy:=Or.inl ⟨by rfl,eU⟩);refine aW 4 ?_;refine aW 5 ?_;refine aW 6 ?_;refine aW 7 ?_ (hy:=Or.inl ⟨by rfl,eU⟩);refine bS 8 (fun K hK=>?_);go_simp
    (go_at_call 119;(with_reducible refine (hld).mono ?_);rintro e' w8 ⟨rfl,rfl⟩)
    refine hK.out _ _ (⟨v6,v1,v2⟩) (fun hHeld=>?_);clear hK K;refine bK ?_;refine aW 9 ?_;refine aW 10 ?_;refine aW 11 ?_;refine aW 12 ?_;refine aW 13 ?_;refine aW 14 ?_ (hy:=Or.inl ⟨by rfl,eU⟩);refine aW 15 ?_;refine aW 16 ?_;refine aW 17 ?_;refine aW 18 ?_ (hy:=Or.inl ⟨by rfl,eU⟩);refine bS 19 (fun K hK=>?_);go_simp
    (go_at_call 120;(with_reducible refine (hlo).mono ?_);rintro e' w8 ⟨rfl,rfl⟩)
    refine hK.out _ _ (⟨v6,v1,v2⟩) (fun hHeld=>?_);clear hK K;refine bK ?_;refine aW 20 ?_;refine aW 21 ?_;refine aW 22 ?_;refine bD 23 ?_;refine bD 24 ?_;refine bD 25 ?_;refine bD 26 ?_;refine bD 27 ?_;refine bD 28 ?_;refine bD 29 ?_;refine bD 30 ?_;refine bD 31 ?_;refine bD 32 ?_;refine bD 33 ?_;refine aW 34 ?_;refine wpAnyH_done bV ?_ _;go_wp2_with fail;go_ret;rw[HE1.out,show ij E1=53 from if_pos HB.out]
    first | exact⟨_,_,_,rfl,XD.out⟩ | exact⟨rfl,_,_,_,XD.out⟩
  by_cases q3:E1.nIn<E1.nOut
  · have HB:=aT (show gU E1 from .inr (.inr q3));have d1:decide (E1.tick > (E1.nIn:Int))=false:=ah q1;have d2:decide (E1.tick > (E1.nOut:Int))=false:=ah q2;have d3:decide ((E1.nOut:Int) > (E1.nIn:Int))=true:=am aS;have d4:=am q3;clear q1 q2 q3;go_upto_region 5 with fail;refine wp_region_held_drew (S:=fun w'=>w'.cell? ⟨g,6,none⟩=some (I E1.tick)/\w'.cell? ⟨g,1,none⟩=some (.pointer (some ⟨e.gi,0,none⟩))/\w'.cell? ⟨g,2,none⟩=some (.pointer (some ⟨e.go,0,none⟩))) bQ ⟨v6,v1,v2⟩ (fun hHeld=>?_);refine aW 0 ?_;refine aW 1 ?_;refine aW 2 ?_;refine aW 3 ?_ (hy:=Or.inl ⟨by rfl,eU⟩);refine aW 4 ?_;refine aW 5 ?_;refine aW 6 ?_;refine aW 7 ?_ (hy:=Or.inl ⟨by rfl,eU⟩);refine bS 8 (fun K hK=>?_);go_simp
    (go_at_call 119;(with_reducible refine (hld).mono ?_);rintro e' w8 ⟨rfl,rfl⟩)
    refine hK.out _ _ (⟨v6,v1,v2⟩) (fun hHeld=>?_);clear hK K;refine bK ?_;refine aW 9 ?_;refine aW 10 ?_;refine aW 11 ?_;refine aW 12 ?_;refine aW 13 ?_;refine aW 14 ?_ (hy:=Or.inl ⟨by rfl,eU⟩);refine aW 15 ?_;refine aW 16 ?_;refine aW 17 ?_;refine aW 18 ?_ (hy:=Or.inl ⟨by rfl,eU⟩);refine bS 19 (fun K hK=>?_);go_simp
    (go_at_call 120;(with_reducible refine (hlo).mono ?_);rintro e' w8 ⟨rfl,rfl⟩)
    refine hK.out _ _ (⟨v6,v1,v2⟩) (fun hHeld=>?_);clear hK K;refine bK ?_;refine aW 20 ?_;refine aW 21 ?_;refine aW 22 ?_;refine aW 23 ?_;refine aW 24 ?_;refine aW 25 ?_;refine aW 26 ?_ (hy:=Or.inl ⟨by rfl,eU⟩);refine aW 28 ?_;refine aW 29 ?_;refine aW 30 ?_;refine aW 31 ?_ (hy:=Or.inl ⟨by rfl,eU⟩);refine bS 27 (fun K hK=>?_);go_simp
    (go_at_call 120;(with_reducible refine (hlo).mono ?_);rintro e' w8 ⟨rfl,rfl⟩)
    refine hK.out _ _ (⟨v6,v1,v2⟩) (fun hHeld=>?_);clear hK K;refine bK ?_;refine bS 32 (fun K hK=>?_);go_simp
    (go_at_call 119;(with_reducible refine (hld).mono ?_);rintro e' w8 ⟨rfl,rfl⟩)
    refine hK.out _ _ (⟨v6,v1,v2⟩) (fun hHeld=>?_);clear hK K;refine bK ?_;refine aW 33 ?_;refine aW 34 ?_;refine wpAnyH_done bV ?_ _;go_wp2_with fail;go_ret;rw[HE1.out,show ij E1=53 from if_pos HB.out]
    first | exact⟨_,_,_,rfl,XD.out⟩ | exact⟨rfl,_,_,_,XD.out⟩
  · have HB:=aT (show ¬ gU E1 from fun h=>by rcases h with h | h | h;exact q1 h;exact q2 h;exact q3 h);have d1:decide (E1.tick > (E1.nIn:Int))=false:=ah q1;have d2:decide (E1.tick > (E1.nOut:Int))=false:=ah q2;have d3:decide ((E1.nOut:Int) > (E1.nIn:Int))=false:=ah aS;have d4:=ah q3;clear q1 q2 q3;go_upto_region 5 with fail;refine wp_region_held_drew (S:=fun w'=>w'.cell? ⟨g,6,none⟩=some (I E1.tick)/\w'.cell? ⟨g,1,none⟩=some (.pointer (some ⟨e.gi,0,none⟩))/\w'.cell? ⟨g,2,none⟩=some (.pointer (some ⟨e.go,0,none⟩))) bQ ⟨v6,v1,v2⟩ (fun hHeld=>?_);refine aW 0 ?_;refine aW 1 ?_;refine aW 2 ?_;refine aW 3 ?_ (hy:=Or.inl ⟨by rfl,eU⟩);refine aW 4 ?_;refine aW 5 ?_;refine aW 6 ?_;refine aW 7 ?_ (hy:=Or.inl ⟨by rfl,eU⟩);refine bS 8 (fun K hK=>?_);go_simp
    (go_at_call 119;(with_reducible refine (hld).mono ?_);rintro e' w8 ⟨rfl,rfl⟩)
    refine hK.out _ _ (⟨v6,v1,v2⟩) (fun hHeld=>?_);clear hK K;refine bK ?_;refine aW 9 ?_;refine aW 10 ?_;refine aW 11 ?_;refine aW 12 ?_;refine aW 13 ?_;refine aW 14 ?_ (hy:=Or.inl ⟨by rfl,eU⟩);refine aW 15 ?_;refine aW 16 ?_;refine aW 17 ?_;refine aW 18 ?_ (hy:=Or.inl ⟨by rfl,eU⟩);refine bS 19 (fun K hK=>?_);go_simp
    (go_at_call 120;(with_reducible refine (hlo).mono ?_);rintro e' w8 ⟨rfl,rfl⟩)
    refine hK.out _ _ (⟨v6,v1,v2⟩) (fun hHeld=>?_);clear hK K;refine bK ?_;refine aW 20 ?_;refine aW 21 ?_;refine aW 22 ?_;refine aW 23 ?_;refine aW 24 ?_;refine aW 25 ?_;refine aW 26 ?_ (hy:=Or.inl ⟨by rfl,eU⟩);refine aW 28 ?_;refine aW 29 ?_;refine aW 30 ?_;refine aW 31 ?_ (hy:=Or.inl ⟨by rfl,eU⟩);refine bS 27 (fun K hK=>?_);go_simp
    (go_at_call 120;(with_reducible refine (hlo).mono ?_);rintro e' w8 ⟨rfl,rfl⟩)
    refine hK.out _ _ (⟨v6,v1,v2⟩) (fun hHeld=>?_);clear hK K;refine bK ?_;refine bS 32 (fun K hK=>?_);go_simp
    (go_at_call 119;(with_reducible refine (hld).mono ?_);rintro e' w8 ⟨rfl,rfl⟩)
    refine hK.out _ _ (⟨v6,v1,v2⟩) (fun hHeld=>?_);clear hK K;refine bK ?_;refine aW 33 ?_;refine aW 34 ?_;refine wpAnyH_done bV ?_ _;go_wp2_with fail;go_ret;rw[HE1.out,show ij E1=0 from if_neg HB.out]
    first | exact⟨_,_,_,rfl,XD.out⟩ | exact⟨rfl,_,_,_,XD.out⟩
end
