/- Parts. -/
import Derived.Test.YtmeebofhlilcmaaGreatPr29
set_option linter.unusedVariables false
set_option linter.unusedSimpArgs false
set_option maxRecDepth 100000
set_option maxHeartbeats 0
namespace Go.Proofs.YtmeebofhlilcmaaGreat
variable {p:PV} {D:aX} {dB hB lB pB gB gf t n k:Nat} {rows:List (List Int)}
open Go.RowKit
def OpnFin (w w':World)(base:Nat)(q:bC)(m:Nat)(p:PV)(hash pace:Int)(R:aX × EgV × Int)(g:Nat):Prop :=
 bj w' base q R.1/\Step mutE base q w w'/\(R.2.2=0->∃ e,cH w' base q g e m p hash pace R.2.1)
theorem openE_ok {m:Nat}{hash pace:Int}(G:PrgW p m)(h:(fg m p hash pace D).2.2=0):EgOk m p (fg m p hash pace D).2.1:=by
 rw[openE_is] at h ⊢;obtain⟨f1,f2,f3,f4,f5⟩:=qy m p hash (bN D 0 1 0).1;generalize cY m p hash (bN D 0 1 0).1=P at *
 split
 · rename_i q;rw[if_pos q] at h;exact absurd h q
 rename_i q1;rw[if_neg q1] at h
 split
 · rename_i q;rw[if_pos q] at h;exact absurd h q
 rename_i q2;rw[if_neg q2] at h
 split
 · rename_i q;rw[if_pos q] at h;exact absurd h q
 rename_i q3;rw[if_neg q3] at h
 split
 · rename_i q;rw[if_pos q] at h;exact absurd h q
 rename_i q4;have hb:=beginV_ok G f3 f4 (f5 (by simpa using q2)) (by simpa using q3);exact replV_ok G hb
section
variable {w0 w W W':World} {base g m:Nat} {q:bC} {D D':aX} {x:PA} {p:PV} {hash pace:Int} {e:EP} {E:EgV}
theorem opn4_any (h:OpAt w0 W base q g dB hB lB pB gB gf m x p hash D)(hi:∃ e,cH W base q g e m p hash pace E)(hk:E.k.last.cells.length<=100)(G:PrgW p m) :
 Ca 107 #[.pointer (some ⟨g,0,none⟩)] W fun e w'=>e=.returned (I (iH (begV p E)))/\OpAt w0 w' base q g dB hB lB pB gB gf m x p hash D/\∃ e,cH w' base q g e m p hash pace (begV p E):=by
 obtain⟨e0,hi⟩:=hi;have h60:=G.c60;refine (begin_any hi hk aS h.d h.hs).mono ?_;rintro e w' ⟨A,n,c,rfl,S⟩;exact⟨rfl,h.step S.d S.s,_,S.i⟩
theorem opn5_any (h:OpAt w0 W base q g dB hB lB pB gB gf m x p hash D)(hi:∃ e,cH W base q g e m p hash pace E)(ok:EgOk m p E)(G:PrgW p m)(big:11+2 * m<=D.many)(hwt:D.waits.length<700000)(ht0:E.replayed=0) :
 Ca 108 #[.pointer (some ⟨g,0,none⟩)] W fun e w'=>e=.returned (I (ep m p hash pace D E).2.2)/\OpAt w0 w' base q g dB hB lB pB gB gf m x p hash (ep m p hash pace D E).1/\∃ e,cH w' base q g e m p hash pace (ep m p hash pace D E).2.1:=by
 obtain⟨e0,hi⟩:=hi;refine (erepl_any hi ok G h.d h.hs big hwt ht0).mono ?_;rintro e w' ⟨A,n,c,rfl,S⟩;exact⟨rfl,h.step S.d S.s,_,S.i⟩
theorem beginV_k100 (p:PV)(nIn nOut:Nat)(K:KpV):(eP p nIn nOut K).replayed=0:=by
 unfold eP
 split <;> rfl
theorem partsV_k100 (m:Nat)(p:PV)(hash:Int)(D:aX):(cY m p hash D).2.2.2.1.last.cells.length<=100:=by
 unfold cY prt1V
 split
 · exact KpOk.none_.2.2
 unfold prt2V
 split
 · exact KpOk.none_.2.2
 · exact (oW _ 1 5 6 5 p hash).1.2.2
theorem opn_all (A:OpAt w0 W base q g dB hB lB pB gB gf m x p (cx p:Nat) D)(hb:Blk W g 180 (engN none none none none pace))(G:PrgW p m)(hm1:1<=m)(hM:11+m+m<=D.many)(hwt:D.waits.length<600000) :
 Ca 100 #[.slice (some ⟨gf,0,none⟩) 5 5] W fun e w'=>e=.returned (I (fg m p (cx p:Nat) pace D).2.2)/\Blk w' gB 45 [.pointer (some ⟨g,0,none⟩)]/\OpnFin w0 w' base q m p (cx p:Nat) pace (fg m p (cx p:Nat) pace D) g:=by
 have hm2:=G.m2;obtain⟨r1,r2⟩:=aReadV_few D 0 1 0;obtain⟨f1,f2,f3,f4,f5⟩:=qy m p (cx p:Nat) (bN D 0 1 0).1;have f6:=partsV_k100 m p (cx p:Nat) (bN D 0 1 0).1;have hF:=openE_is m p (cx p:Nat) pace D;have c1:=opn1_any A hb;have c2:∀ W,(OpAt w0 W base q g dB hB lB pB gB gf m x p (cx p:Nat) (bN D 0 1 0).1/\Blk W g 180 (engN none none none none pace))->_:=fun W h=>opn2_any h.1 h.2 G.hw G.hv hm1 aS aS
 generalize hh:((cx p:Nat):Int)=H at *;generalize fg m p H pace D=FIN at *;generalize cX D 0 1 0 1=TK at *;generalize (bN D 0 1 0).1=D1 at *;generalize cY m p H D1=P at *;have c3:∀ W,(OpAt w0 W base q g dB hB lB pB gB gf m x p H P.1/\PaOk W base q g m p pace H x P.2.1 P.2.2.1 P.2.2.2.1)->_:=fun W h=>opn3_any h.1 h.2 G.hw G.hv
 have c4:∀ W,(OpAt w0 W base q g dB hB lB pB gB gf m x p H P.1/\∃ e,cH W base q g e m p H pace (egv0 P.2.1 P.2.2.1 P.2.2.2.1))->_:=fun W h=>opn4_any h.1 h.2 f6 G
 have hBe:begV p (egv0 P.2.1 P.2.2.1 P.2.2.2.1)=eP p P.2.1 P.2.2.1 P.2.2.2.1:=rfl;rw[hBe] at c4;have c5:∀ W,P.2.2.2.2=0->iH (eP p P.2.1 P.2.2.1 P.2.2.2.1)=0->(OpAt w0 W base q g dB hB lB pB gB gf m x p H P.1/\∃ e,cH W base q g e m p H pace (eP p P.2.1 P.2.2.1 P.2.2.2.1))->_:=fun W hz hz4 h=>opn5_any h.1 h.2 (beginV_ok G f3 f4 (f5 hz) hz4) G aS aS (beginV_k100 p _ _ _)
 have hfst:=first_opn (p0:=A.bf) (fun W h=>h.1.bf) (fun W h=>h.1.bf) (fun W h=>h.1.bf) (fun W h=>h.1.bf) (R2:=fun W=>OpAt w0 W base q g dB hB lB pB gB gf m x p H P.1/\(P.2.2.2.2=0->PaOk W base q g m p pace H x P.2.1 P.2.2.1 P.2.2.2.1)) c1 (fun _=>c2) (fun _ hz W h=>c3 W ⟨h.1,h.2 hz⟩) (fun _ _ _=>c4) (fun _ hz _ hz4 W=>c5 W hz hz4);refine hfst.mono ?_;generalize ep m p H pace P.1 (eP p P.2.1 P.2.2.1 P.2.2.2.1)=RR at *;intro e w' hp;rcases hp with ⟨n1,rfl,h⟩ | ⟨n1,n2,rfl,h⟩ | ⟨n1,n2,n3,rfl,h⟩ | ⟨n1,n2,n3,n4,rfl,h⟩ | ⟨n1,n2,n3,n4,rfl,h⟩
 · rw[if_pos n1] at hF;rw[hF];exact⟨rfl,h.1.bg,h.1.d,h.1.s,fun e=>absurd e n1⟩
 · rw[if_neg jK,if_pos n2] at hF;rw[hF];exact⟨rfl,h.1.bg,h.1.d,h.1.s,fun e=>absurd e n2⟩
 · exact absurd rfl n3
 · rw[if_neg jK,if_neg (by rw[n2];simp),if_pos n4] at hF;rw[hF];exact⟨rfl,h.1.bg,h.1.d,h.1.s,fun e=>absurd e n4⟩
 · rw[if_neg jK,if_neg (by rw[n2];simp),if_neg (by rw[n4];simp)] at hF
   split at hF
   · rename_i n5;rw[hF];exact⟨rfl,h.1.bg,h.1.d,h.1.s,fun e=>absurd e n5⟩
   · rw[hF];exact⟨rfl,h.1.bg,h.1.d,h.1.s,fun _=>h.2⟩
theorem engopen_any (hd:bj w base q D)(hs:base<=w.heap.size)(hp:ed w base x p)(G:PrgW p m)(h13:13<=D.many)(hm:logN (D.many:Nat)=(m:Nat))(hm1:1<=m)(hM:11+m+m<=D.many)(hp1:1<=pace)(hp2:pace<=1024)(hwt:D.waits.length<600000) :
 Ca 25 #[.pointer (some ⟨q.d,0,none⟩),.agg #[.slice x.A1 x.n1 x.c1,.slice x.A2 x.n2 x.c2,I p.regs,.slice x.A3 x.n3 x.c3,.slice x.A4 x.n4 x.c4],I pace] w fun e w'=>∃ g,
  OpnFin w w' base q m p (cx p:Nat) pace (fg m p (cx p:Nat) pace D) g/\e=.returned (.tuple #[.pointer (if (fg m p (cx p:Nat) pace D).2.2=0 then some ⟨g,0,none⟩ else none),I (fg m p (cx p:Nat) pace D).2.2]):=by
 have hb00:Below w.heap.size w (w.alloc (.cells #[.pointer (some ⟨q.d,0,none⟩)] 50)):=(Below.refl _ _).alloc aW _;have hb0:Below w.heap.size w ((w.alloc (.cells #[.pointer (some ⟨q.d,0,none⟩)] 50)).alloc (.cells #[.slice x.A1 x.n1 x.c1,.slice x.A2 x.n2 x.c2,I p.regs,.slice x.A3 x.n3 x.c3,.slice x.A4 x.n4 x.c4] 26)):=hb00.alloc ba _;have hmay:=may_yes (hd.below hb0) (hp.rd.below (b:=w.heap.size) hb0 aW) G.hw G.hv h13 hm;have d1:decide (pace<1)=false:=aj aS;have d2:decide (1024<pace)=false:=aj aS;have hall:=fun (W:World) (a b c d e f g:Nat) (A:OpAt w W base q g a b c d e f m x p (cx p:Nat) D) (hb:Blk W g 180 (engN none none none none pace))=>opn_all A hb G hm1 hM hwt
 have H0:=aT (And.intro hd hp);have HS:=aT hs;generalize fg m p (cx p:Nat) pace D=FIN at *;generalize cx p=hh at *;clear hp hd hp1 hp2 h13 hm hm1 hM hwt G hs;go_enter Tryz.func25,Tryz.ntmps25;go_upto_region 7 with (first | ((go_at_call 99;(with_reducible refine (hmay).mono ?_);rintro e w2 ⟨rfl,hb2⟩);have B2:=aT (hb0.trans (hb2.mono cU));have B3:=aT hb2;have hsz2:=hb2.size;simp at hsz2) | fail);have BL:Below w2.heap.size w2 (((((w2.alloc (.cells #[I 0,I 1,I 1,I 5,I 6,I 5,I 11,I (m:Nat),I (11+(m:Nat)),I (m:Nat)] 122)).alloc (.cells #[I (hh:Nat)] 3)).alloc (.cells (engN none none none none pace).toArray 180)).alloc (.cells #[.pointer (some ⟨w2.heap.size+2,0,none⟩)] 45)).alloc (.cells (opnL (.pointer (some ⟨w.heap.size,0,none⟩)) (.pointer (some ⟨w.heap.size+1,0,none⟩)) (.pointer (some ⟨w2.heap.size,0,none⟩)) (.pointer (some ⟨w2.heap.size+1,0,none⟩)) (.pointer (some ⟨w2.heap.size+3,0,none⟩)) (.pointer (some ⟨w2.heap.size+2,0,none⟩))).toArray 61)):=(((((Below.refl _ _).alloc aW _).alloc ba _).alloc cU _).alloc cU _).alloc cU _;have A4:=aT (show OpAt w (((((w2.alloc (.cells #[I 0,I 1,I 1,I 5,I 6,I 5,I 11,I (m:Nat),I (11+(m:Nat)),I (m:Nat)] 122)).alloc (.cells #[I (hh:Nat)] 3)).alloc (.cells (engN none none none none pace).toArray 180)).alloc (.cells #[.pointer (some ⟨w2.heap.size+2,0,none⟩)] 45)).alloc (.cells (opnL (.pointer (some ⟨w.heap.size,0,none⟩)) (.pointer (some ⟨w.heap.size+1,0,none⟩)) (.pointer (some ⟨w2.heap.size,0,none⟩)) (.pointer (some ⟨w2.heap.size+1,0,none⟩)) (.pointer (some ⟨w2.heap.size+3,0,none⟩)) (.pointer (some ⟨w2.heap.size+2,0,none⟩))).toArray 61)) base q (w2.heap.size+2) w.heap.size (w2.heap.size+1) w2.heap.size (w.heap.size+1) (w2.heap.size+3) (w2.heap.size+4) m x p (hh:Nat) D/\Blk (((((w2.alloc (.cells #[I 0,I 1,I 1,I 5,I 6,I 5,I 11,I (m:Nat),I (11+(m:Nat)),I (m:Nat)] 122)).alloc (.cells #[I (hh:Nat)] 3)).alloc (.cells (engN none none none none pace).toArray 180)).alloc (.cells #[.pointer (some ⟨w2.heap.size+2,0,none⟩)] 45)).alloc (.cells (opnL (.pointer (some ⟨w.heap.size,0,none⟩)) (.pointer (some ⟨w.heap.size+1,0,none⟩)) (.pointer (some ⟨w2.heap.size,0,none⟩)) (.pointer (some ⟨w2.heap.size+1,0,none⟩)) (.pointer (some ⟨w2.heap.size+3,0,none⟩)) (.pointer (some ⟨w2.heap.size+2,0,none⟩))).toArray 61)) (w2.heap.size+2) 180 (engN none none none none pace) from by
  have BW:=B2.out.trans (BL.mono aS);have X0:=Blk.below ((Blk.top w rfl rfl).alloc _) B3.out cU;have X1:Blk w2 (w.heap.size+1) 26 (progC x p):=Blk.below (Blk.top _ ba rfl) B3.out ba;refine⟨⟨H0.out.1.below BW,by have:=HS.out;omega,Blk.below X0 BL X0.lt,?_,?_,Blk.below X1 BL X1.lt,?_,Blk.top _ ba rfl,H0.out.2.below BW,Step.of_below BW HS.out,HS.out⟩,?_⟩
  · exact ((Blk.top _ ba rfl).alloc _ |>.alloc _ |>.alloc _)
  · exact ((Blk.top _ ba rfl).alloc _ |>.alloc _ |>.alloc _ |>.alloc _)
  · exact ((Blk.top _ ba rfl).alloc _)
  · exact ((Blk.top _ ba rfl).alloc _ |>.alloc _))
 have hfin:=hall _ _ _ _ _ _ _ _ A4.out.1 A4.out.2;clear hall hmay A4 BL B2 B3 H0 HS hb0 hb00
 by_cases hz:FIN.2.2=0
 · have dz:decide (FIN.2.2≠0)=false:=aj (by simp[hz]);have dz2:(FIN.2.2 != 0)=false:=by rw[hz];rfl
   have HZ:=aT hz;clear hz;go_wp2_with (first | (go_at_call 100;refine hfin.mono ?_;rintro e w5 ⟨rfl,hbg,hpost⟩;have HP:=aT hpost;clear hpost;have cg:=hbg.c0) | fail);go_ret2
   first | exact⟨w2.heap.size+2,HP.out,rfl⟩ | exact⟨⟨w2.heap.size+2,HP.out⟩,rfl⟩
 · have dz:decide (FIN.2.2≠0)=true:=am hz;have dz2:(FIN.2.2 != 0)=true:=by rw[af];exact hz
   have HZ:=aT hz;clear hz;go_wp2_with (first | (go_at_call 100;refine hfin.mono ?_;rintro e w5 ⟨rfl,hbg,hpost⟩;have HP:=aT hpost;clear hpost;have cg:=hbg.c0) | fail);go_ret2
   first | exact⟨w2.heap.size+2,HP.out,rfl⟩ | exact⟨⟨w2.heap.size+2,HP.out⟩,rfl⟩
end
theorem rowAt_app {more:List (List Int)}(h:t<rows.length):fV (rows ++ more) t=fV rows t:=by
 unfold fV;rw[ah,ah,aN h]
theorem kI (more:List (List Int)):∀ t,t<=rows.length->de p (rows ++ more) t=de p rows t:=by
 intro t
 induction t with
 | zero=>intro _;rfl
 | succ t ih=>
   intro h;unfold de;rw[ih aS,rowAt_app aS]
theorem gaveV_app (more:List (List Int))(h:t<rows.length):dL p (rows ++ more) t=dL p rows t:=by
 unfold dL;rw[kI more t aS,rowAt_app h]
theorem nu (more:List (List Int))(h:n<=rows.length):cN p (rows ++ more) n=cN p rows n:=by
 unfold cN;refine List.map_congr_left (fun t ht=>gaveV_app more ?_);rw[List.mem_range] at ht;omega
theorem jn (p:PV)(rows:List (List Int))(n:Nat):(cN p rows n).length=n:=by simp[cN]
theorem outsV_get (p:PV)(rows:List (List Int))(h:t<n):(cN p rows n)[t]?=some (dL p rows t):=by
 unfold cN;rw[List.getElem?_map,List.getElem?_range h]
 rfl
theorem qz (p:PV)(rows:List (List Int))(h:k<=n):(cN p rows n).take k=cN p rows k:=by
 unfold cN;rw[<- List.map_take,List.take_range,Nat.min_eq_left h]
theorem outsV_split (p:PV)(rows:List (List Int))(h:k<=n):cN p rows n=cN p rows k ++ (cN p rows n).drop k:=by
 rw[<- qz p rows h,List.take_append_drop]
theorem oZ {l:List Int}(h:eV l):∀ z ∈ l,In64 z:=fun z hz=>by
 obtain⟨i,hi,rfl⟩:=List.getElem_of_mem hz;have:=h i hi;unfold aZ at this
 rwa [ah,ap hi] at this
theorem mem_intok {l:List Int}(h:∀ z ∈ l,In64 z):eV l:=fun i hi=>by
 have:=h _ (List.getElem_mem hi);unfold aZ;rw[ah,ap hi];exact this
theorem nw (h:t<rows.length):rows[t]?=some (fV rows t)/\fV rows t ∈ rows:=by
 unfold fV;rw[ah,ap h];exact⟨rfl,List.getElem_mem h⟩
structure Prg (p:PV)(H m:Nat)(pace:Int):Prop where
 hv:dJ p=true
 hw:eI p
 h63:H<9223372036854775808
 m1:1<=m
 m2:m<=1024
 pc:1<=pace
section
variable {p:PV} {H m c:Nat} {pace:Int}
theorem Prg.may (G:Prg p H m pace):mayB p=true:=(jy G.hv).1
theorem Prg.ins (G:Prg p H m pace):db p.ins=true:=(dN.1 G.may).1
theorem Prg.outs (G:Prg p H m pace):db p.outs=true:=(dN.1 G.may).2.1
theorem pb (G:Prg p H m pace)(hR:eN p.ins rows):∀ t,t<=rows.length->gO p (de p rows t)=true/\∀ z ∈ de p rows t,In64 z:=by
 intro t
 induction t with
 | zero=>intro _;exact qg G.may G.hw
 | succ t ih=>
   intro h;obtain⟨i1,i2⟩:=ih aS;obtain⟨_,m2⟩:=nw (show t<rows.length by omega);obtain⟨_,b,_,d,_⟩:=mY G.hv G.hw i1 (hR.fits _ m2) i2 (oZ (hR.ints _ m2));exact⟨b,d⟩
theorem gave_fits (G:Prg p H m pace)(hR:eN p.ins rows)(h:t<rows.length):(eO p (de p rows t) (fV rows t)).2.2.2=0/\cB p.outs (dL p rows t)=true/\eV (dL p rows t):=by
 obtain⟨i1,i2⟩:=pb G hR t aS;obtain⟨_,m2⟩:=nw h;obtain⟨a,_,b,_,d⟩:=mY G.hv G.hw i1 (hR.fits _ m2) i2 (oZ (hR.ints _ m2));exact⟨a,b,mem_intok d⟩
theorem outs_ok (G:Prg p H m pace)(hR:eN p.ins rows)(h:n<=rows.length):eN p.outs (cN p rows n):=by
 have key:∀ x ∈ cN p rows n,cB p.outs x=true/\eV x:=fun x hx=>by
  unfold cN at hx;rw[List.mem_map] at hx;obtain⟨t,ht,rfl⟩:=hx;rw[List.mem_range] at ht;exact (gave_fits G hR (show t<rows.length by omega)).2
 exact⟨fun x hx=>(key x hx).1,fun x hx=>(key x hx).2⟩
end
def dG (n:Nat)(last:Int):Int:=if n=0 then 0 else last
def gP (m kS:Nat)(alls:List (List UInt8))(N:Secs):Says:=fun s S=>if 11+m<=s/\s<11+2 * m then SecA 4 kS alls (s - (11+m)) S else S=N s
structure Mid (p:PV)(H m c:Nat)(D:aX)(E:EgV)(rows:List (List Int))(N:Secs)(kS:Nat)(s:SlV3)(n:Nat)(last:Int)(is:List Int):Prop where
 pow:Pow D N (gP m kS (cI p.outs (cN p rows rows.length)) N)
 big:11+2 * m<=D.many
 wl:D.waits.length+kS<=E.nOut
 root:N 0=bT 1 H []
 feed:Jrn N 11 m 3 (cI p.ins rows)
 rok:eN p.ins rows
 sink:Jrn N (11+m) m 4 (cI p.outs (cN p rows E.nOut))
 kp:KpN p (H:Int) N s n last is
 kc:0<n->is=de p rows last.toNat/\0<=last/\last<=(kS:Int)
 nc:n<=c
 ek:E.k=kOf (H:Int) s n last is
 nin:E.nIn=rows.length
 no:E.nOut<=rows.length
 t0:0<=E.tick
 t1:E.tick<=(E.nOut:Int)
 ce:E.cells=de p rows E.tick.toNat
 p0:0<=E.passed
 p1:E.passed<=E.tick
 ts:E.tick<=dG n last+E.passed
 sl:dG n last<=E.tick
 off:E.off=false
 put:E.put=false->D.waits=[]
structure Good (p:PV)(H m c:Nat)(pace:Int)(k:Nat)(all:List (List Int))(ran:Int)(N:Secs):Prop where
 root:N 0=bT 1 H []
 rok:eN p.ins all
 le:k<=all.length
 fit:all.length<=m
 feed:∀ n,n<m->SecJ 3 k (cI p.ins all) n (N (11+n))
 rest:∃ kS s n last is,kS<=k/\(∀ n,n<m->SecJ 4 kS (cI p.outs (cN p all k)) n (N (11+m+n)))/\KpN p (H:Int) N s n last is/\n<=c /\
  (0<n->is=de p all last.toNat/\0<=last/\last<=(kS:Int))/\ran<=dG n last+pace
def May (D:aX)(G:Secs->Prop):Prop:=∃ P,Safe D P/\∀ N':Secs,(∀ s:Nat,s<D.many->P s (N' s))->G N'
theorem May.crash {G:Secs->Prop}(h:May D G)(cs:List UInt8):∃ N,Rest (fU D cs) N/\G N/\(fU D cs).cut=-1/\(fU D cs).many=D.many:=by
 obtain⟨P,hs,hG⟩:=h;obtain⟨a,b,d,e⟩:=hs.crash cs;exact⟨_,a,hG _ e,b,d⟩
theorem May.mono {G G':Secs->Prop}(h:May D G)(hG:∀ N,G N->G' N):May D G':=by
 obtain⟨P,hs,h2⟩:=h;exact⟨P,hs,fun N' q=>hG N' (h2 N' q)⟩
section
variable {p:PV} {H m c:Nat} {pace ran:Int} {D D':aX} {E:EgV} {rows:List (List Int)} {N N':Secs} {kS:Nat} {s:SlV3} {n:Nat} {last:Int} {is:List Int}
theorem Mid.rows_le (h:Mid p H m c D E rows N kS s n last is):rows.length<=m:=by
 have:=h.feed.le
 rwa [fN] at this
theorem Mid.ksle (h:Mid p H m c D E rows N kS s n last is):kS<=E.nOut:=by have:=h.wl;omega
theorem Mid.good (h:Mid p H m c D E rows N kS s n last is)(hs:Safe D' (gP m kS (cI p.outs (cN p rows rows.length)) N))(hm:D'.many=D.many)(hr:ran<=dG n last+pace):May D' (Good p H m c pace rows.length rows ran):=by
 refine⟨_,hs,fun N' hN=>?_⟩;have hbig:=h.big;have hks:=h.ksle;have hno:=h.no;have hout:∀ j:Nat,j<11+m->N' j=N j:=fun j hj=>by
  have:=hN j aS;unfold gP at this
  rwa [if_neg aS] at this
 refine⟨by rw[hout 0 aS];exact h.root,h.rok,Nat.le_refl _,h.rows_le,fun j hj=>?_,kS,s,n,last,is,aS,fun j hj=>?_,h.kp.congr (fun j j1 j2=>hout j aS),h.nc,h.kc,hr⟩
 · rw[hout (11+j) aS];have:=(h.feed.secA (more:=[]) hj).j
   rwa [List.append_nil,fN] at this
 · have:=hN (11+m+j) aS;unfold gP at this;rw[if_pos aS,show 11+m+j - (11+m)=j by omega] at this;exact this.j
theorem ny (p:PV)(rows:List (List Int))(h:k<=rows.length):cI p.outs (cN p rows rows.length)=cI p.outs (cN p rows k) ++ cI p.outs ((cN p rows rows.length).drop k):=by
 conv=>lhs;rw[outsV_split p rows h]
 unfold cI;rw[List.map_append]
theorem Mid.rest (h:Mid p H m c D E rows N kS s n last is)(hr:Rest D' N)(hm:D'.many=D.many):Mid p H m c D' { E with put:=false } rows N E.nOut s n last is:=by
 have hks:=h.ksle;refine⟨hr.pow (fun j hj=>?_),by rw[hm];exact h.big,by rw[hr.waits];simp,h.root,h.feed,h.rok,h.sink,h.kp,fun q=>⟨(h.kc q).1,(h.kc q).2.1,by have:=(h.kc q).2.2;omega⟩,h.nc,h.ek,h.nin,h.no,h.t0,h.t1,h.ce,h.p0,h.p1,h.ts,h.sl,h.off,fun _=>hr.waits⟩;unfold gP
 split
 · rename_i q;have:=h.sink.secA (more:=cI p.outs ((cN p rows rows.length).drop E.nOut)) (n:=j - (11+m)) aS;rw[<- ny p rows h.no,fN,jn,show 11+m+(j - (11+m))=j by omega] at this;exact this
 · rfl
theorem Mid.isRest (h:Mid p H m c D E rows N kS s n last is)(hw:D.waits=[]):Rest D N:=Rest.of_pow h.pow hw
end
def Went (D D':aX)(G:Secs->Prop):Prop:=D'.off=true/\D.cut≠-1/\D'.many=D.many/\May D' G
section
variable {p:PV} {H m c:Nat} {pace ran:Int} {D D':aX} {E:EgV} {rows:List (List Int)} {N N':Secs} {kS:Nat} {s:SlV3} {n:Nat} {last:Int} {is:List Int}
theorem Went.mono {G G':Secs->Prop}(h:Went D D' G)(hG:∀ N,G N->G' N):Went D D' G':=⟨h.1,h.2.1,h.2.2.1,h.2.2.2.mono hG⟩
theorem Went.trans {D1:aX}{G:Secs->Prop}(h:Went D1 D' G)(hc:D.cut=-1->D1.cut=-1)(hm:D1.many=D.many):Went D D' G:=⟨h.1,fun q=>h.2.1 (hc q),h.2.2.1.trans hm,h.2.2.2⟩
theorem Mid.stay (h:Mid p H m c D E rows N kS s n last is)(o:List Int)(ht:E.tick<(E.nOut:Int))(hr:dG n last<=E.tick) :
 Mid p H m c { D with ops:=o } { E with put:=E.put || false,tick:=E.tick+1,cells:=de p rows (E.tick+1).toNat,passed:=E.passed+1 } rows N kS s n last is:=by
 refine⟨h.pow.ops o,h.big,h.wl,h.root,h.feed,h.rok,h.sink,h.kp,h.kc,h.nc,h.ek,h.nin,h.no,?_,?_,rfl,?_,?_,?_,?_,h.off,fun q=>h.put ?_⟩
 · show 0<=E.tick+1;have:=h.t0;omega
 · show E.tick+1<=(E.nOut:Int);omega
 · show 0<=E.passed+1;have:=h.p0;omega
 · show E.passed+1<=E.tick+1;have:=h.p1;omega
 · show E.tick+1<=dG n last+(E.passed+1);have:=h.ts;omega
 · show dG n last<=E.tick+1;omega
 · simpa using q
theorem Mid.one (G:Prg p H m pace)(h:Mid p H m c D E rows N kS s n last is)(ht:E.tick<(rows.length:Int))(hr:ran<=dG n last+pace) :
 ((bL m p D E).2.2=0/\(∃ N',Mid p H m c (bL m p D E).1 (bL m p D E).2.1 rows N' kS s n last is)/\(bL m p D E).2.1.tick=E.tick+1/\(bL m p D E).2.1.passed=E.passed+1/\(bL m p D E).2.1.replayed=E.replayed/\(bL m p D E).1.many=D.many/\(D.cut=-1->(bL m p D E).1.cut=-1)) \/
 ((bL m p D E).2.2=50/\(bL m p D E).2.1.tick=E.tick/\Went D (bL m p D E).1 (Good p H m c pace rows.length rows ran)):=by
 obtain⟨t,hte⟩:∃ t:Nat,E.tick=(t:Int):=⟨E.tick.toNat,by have:=h.t0;omega⟩;have ht':t<rows.length:=aS;obtain⟨r1,r2⟩:=nw ht';obtain⟨g1,g2,g3⟩:=gave_fits G h.rok ht';have hbig:=h.big;have hm2:=G.m2;have hget:dD D 11 m 3 E.nIn p.ins E.tick=(eb D,fV rows t,0):=by
  rw[h.nin,hte];exact mS (D:=D) (N:=N) (f:=11) (m:=m) (kind:=3) h.pow.fit.off h.pow.now h.rok h.feed aS aS aS aS r1
 have hce:E.cells=de p rows t:=by rw[h.ce,hte,ax]
 have hout:(eO p (de p rows t) (fV rows t)).2.1=dL p rows t:=rfl;have hnext:(eO p (de p rows t) (fV rows t)).1=de p rows (t+1):=rfl;have hone:bL m p D E=ia E (eO p (de p rows t) (fV rows t)) (fe (eb D) (11+m) m 4 E.nOut p.outs (t:Int) (dL p rows t)):=by
  unfold bL;rw[hget];unfold iX;rw[if_neg ba];unfold eOneB;simp only;rw[hce,if_neg (by rw[g1];simp),hout,hte]
 rw[hone];generalize eO p (de p rows t) (fV rows t)=T at *;have hput:fe (eb D) (11+m) m 4 E.nOut p.outs (t:Int) (dL p rows t)=if (t:Int)<0\/(E.nOut:Int)<t then (eb D,E.nOut,false,2)
  else if cB p.outs (dL p rows t)=false then (eb D,E.nOut,false,41)
  else if (t:Int)<(E.nOut:Int) then (eb D,E.nOut,false,0)
  else if (cP (eb D) (11+m) m 4 E.nOut (rowB p.outs (dL p rows t) p.outs.length)).2.2.2≠0 then ((cP (eb D) (11+m) m 4 E.nOut (rowB p.outs (dL p rows t) p.outs.length)).1,(cP (eb D) (11+m) m 4 E.nOut (rowB p.outs (dL p rows t) p.outs.length)).2.1,false,(cP (eb D) (11+m) m 4 E.nOut (rowB p.outs (dL p rows t) p.outs.length)).2.2.2)
  else ((cP (eb D) (11+m) m 4 E.nOut (rowB p.outs (dL p rows t) p.outs.length)).1,(cP (eb D) (11+m) m 4 E.nOut (rowB p.outs (dL p rows t) p.outs.length)).2.1,true,0):=rfl
 have ht1:=h.t1;rw[if_neg aS,if_neg (by rw[g2];simp)] at hput
 by_cases hlt:(t:Int)<(E.nOut:Int)
 · rw[if_pos hlt] at hput;rw[hput]
   left
   unfold ia;rw[if_neg ba];refine⟨rfl,⟨N,?_⟩,rfl,rfl,rfl,rfl,fun q=>q⟩;have hS:=h.stay (mAdd D.ops 1 1) (by rw[hte];exact hlt) h.sl;have e1:de p rows (E.tick+1).toNat=T.1:=by rw[hnext,hte];congr 1
   rw[e1] at hS;exact hS
 · rw[if_neg hlt] at hput;have hno:E.nOut=t:=aS;have hks:=h.ksle;have hrl:=h.rows_le;have halls:(cI p.outs (cN p rows rows.length))[t]?=some (rowB p.outs (dL p rows t) p.outs.length):=oG (outsV_get p rows ht');have hl113:(rowB p.outs (dL p rows t) p.outs.length).length<=113:=by have:=mR G.outs (dL p rows t);omega
   have hp':Pow (eb D) N (gP m kS (cI p.outs (cN p rows rows.length)) N):=h.pow.ops _;have hwl:=h.wl;obtain⟨a1,a2,a3⟩:=hp'.jadd (f:=11+m) (m:=m) (kind:=4) (k:=t) (l:=rowB p.outs (dL p rows t) p.outs.length) (by show 11+m+m<=D.many;omega) aS aS aS hl113 (by show D.waits.length<1000000;omega) (by
    have:=SecA.sealed (kind:=4) (k:=kS) (n:=t) aS halls hl113;intro S cc hc hS hP;unfold gP at hP ⊢;rw[if_pos aS,show 11+m+t - (11+m)=t by omega] at hP ⊢;exact this S cc hc hS hP)
   rw[hno] at hput;rcases a3 with ⟨b1,b2,b3⟩ | ⟨b1,b2,b3,b4⟩
   · rw[if_neg (by rw[show (4:Int)=((4:Nat):Int) from rfl,b1];simp)] at hput;rw[show (4:Int)=((4:Nat):Int) from rfl,b1] at hput;have hsink:=h.sink.put (by rw[fN,jn];omega) (l:=rowB p.outs (dL p rows t) p.outs.length) hl113;rw[fN,jn,hno,<- oH,oJ] at hsink;generalize cP (eb D) (11+m) m ((4:Nat):Int) t (rowB p.outs (dL p rows t) p.outs.length)=R at *;rw[show (4:Int)=((4:Nat):Int) from rfl,hno,hput]
     left
     unfold ia;rw[if_neg ba];refine⟨rfl,⟨putN N (11+m+t) (bT 4 t (rowB p.outs (dL p rows t) p.outs.length)),?_⟩,by simp[hte],rfl,rfl,a1,b3⟩;have hother:∀ j:Nat,j<11+m->putN N (11+m+t) (bT 4 t (rowB p.outs (dL p rows t) p.outs.length)) j=N j:=fun j hj=>by unfold putN;rw[if_neg aS]
     refine⟨?_,by rw[a1];exact hbig,?_,by rw[hother 0 aS];exact h.root,h.feed.congr (fun j hj=>hother _ aS),h.rok,hsink,h.kp.congr (fun j j1 j2=>hother j aS),h.kc,h.nc,h.ek,h.nin,?_,?_,?_,?_,?_,?_,?_,?_,h.off,fun q=>?_⟩
     · have e:gP m kS (cI p.outs (cN p rows rows.length)) (putN N (11+m+t) (bT 4 t (rowB p.outs (dL p rows t) p.outs.length)))=gP m kS (cI p.outs (cN p rows rows.length)) N:=by
        funext j S
        unfold gP putN
        by_cases q:11+m<=j/\j<11+2 * m
        · rw[if_pos q,if_pos q]
        · rw[if_neg q,if_neg q,if_neg aS]
       rw[e];exact b2
     · show R.1.waits.length+kS<=t+1
       rw[a2,az,aJ]
       show D.waits.length+1+kS<=t+1
       omega
     · show t+1<=rows.length;omega
     · show 0<=E.tick+1;have:=h.t0;omega
     · show E.tick+1<=((t+1:Nat):Int);omega
     · show T.1=de p rows (E.tick+1).toNat
       rw[hnext,hte];congr 1
     · show 0<=E.passed+1;have:=h.p0;omega
     · show E.passed+1<=E.tick+1;have:=h.p1;omega
     · show E.tick+1<=dG n last+(E.passed+1);have:=h.ts;omega
     · show dG n last<=E.tick+1;have:=h.sl;omega
     · have q:(E.put || true)=false:=q;simp at q
   · rw[if_pos (by rw[show (4:Int)=((4:Nat):Int) from rfl,b1];simp)] at hput;rw[show (4:Int)=((4:Nat):Int) from rfl] at hput;rw[show (4:Int)=((4:Nat):Int) from rfl,hno,hput,b1]
     right
     unfold ia;rw[if_pos ba];exact⟨rfl,rfl,b2,b3,a1,h.good b4 a1 hr⟩
theorem Mid.flush (h:Mid p H m c D E rows N kS s n last is)(hr:ran<=dG n last+pace) :
 ((cV D E).2.2=0/\Mid p H m c (cV D E).1 (cV D E).2.1 rows N E.nOut s n last is/\(cV D E).2.1={ E with put:=false }/\(cV D E).1.waits=[]/\(cV D E).1.many=D.many/\(D.cut=-1->(cV D E).1.cut=-1)) \/
 ((cV D E).2.2=50/\(cV D E).2.1.tick=E.tick/\Went D (cV D E).1 (Good p H m c pace rows.length rows ran)):=by
 unfold cV
 by_cases hp:E.put=false
 · rw[if_pos hp];have hw:=h.put hp;have e:({ E with put:=false }:EgV)=E:=by cases E;simp only at hp;subst hp;rfl
   have:=h.rest (h.isRest hw) rfl;rw[e] at this;exact .inl ⟨rfl,this,e.symm,hw,rfl,fun q=>q⟩
 · rw[if_neg hp];obtain⟨a1,a2⟩:=h.pow.flush;unfold mb;rcases a2 with ⟨b1,b2,b3⟩ | ⟨b1,b2,b3,b4⟩
   · rw[b1];exact .inl ⟨rfl,h.rest b2 a1,rfl,b2.waits,a1,b3⟩
   · rw[b1];exact .inr ⟨rfl,rfl,b2,b3,a1,h.good b4 a1 hr⟩
theorem stfits_of (G:Prg p H m pace)(hR:eN p.ins rows)(ht:t<=rows.length)(hm:rows.length<=m):eY p ⟨(t:Int),(H:Int),de p rows t⟩=true/\mF ⟨(t:Int),(H:Int),de p rows t⟩:=by
 obtain⟨i1,i2⟩:=pb G hR t ht;obtain⟨c1,c2⟩:=iC.1 i1;have:=G.m2;have:=G.h63;refine⟨jR.2 ⟨G.may,by show (0:Int)<=t;omega,by show (0:Int)<=H;omega,c1,c2⟩,?_,?_,i2⟩
 · show I64 (t:Int);unfold I64;omega
 · show I64 (H:Int);unfold I64;omega
theorem Mid.save (G:Prg p H m pace)(h:Mid p H m c D E rows N kS s n last is)(hc:c<9000000000000000000)(hr:ran<=dG n last+pace)(hr2:ran<=E.tick+pace) :
 ((dv p (H:Int) D E).2.2=0/\(∃ N' s',Mid p H m (c+1) (dv p (H:Int) D E).1 (dv p (H:Int) D E).2.1 rows N' E.nOut s' (n+1) E.tick E.cells)/\(∃ k',(dv p (H:Int) D E).2.1={ E with put:=false,passed:=0,k:=k' })/\(dv p (H:Int) D E).1.waits=[]/\(dv p (H:Int) D E).1.many=D.many/\(D.cut=-1->(dv p (H:Int) D E).1.cut=-1)) \/
 ((dv p (H:Int) D E).2.2=50/\(dv p (H:Int) D E).2.1.tick=E.tick/\Went D (dv p (H:Int) D E).1 (Good p H m (c+1) pace rows.length rows ran)):=by
 have gm:∀ N,Good p H m c pace rows.length rows ran N->Good p H m (c+1) pace rows.length rows ran N:=fun N g=>by
  obtain⟨kS,s,n,last,is,r1,r2,r3,r4,r5⟩:=g.rest;exact⟨g.root,g.rok,g.le,g.fit,g.feed,kS,s,n,last,is,r1,r2,r3,aS,r5⟩
 unfold dv;obtain⟨a1,a2⟩:=h.pow.flush;unfold jj;rcases a2 with ⟨b1,b2,b3⟩ | ⟨b1,b2,b3,b4⟩;rotate_left 1
 · rw[if_pos jd];exact .inr ⟨b1,rfl,b2,b3,a1,(h.good b4 a1 hr).mono gm⟩
 rw[if_neg jd];have h1:=h.rest b2 a1;generalize (bG D).1=D1 at *;obtain⟨t,hte⟩:∃ t:Nat,E.tick=(t:Int):=⟨E.tick.toNat,by have:=h.t0;omega⟩;have hce:E.cells=de p rows t:=by rw[h.ce,hte,ax]
 have htr:t<=rows.length:=by have:=h.t1;have:=h.no;omega
 obtain⟨f1,f2⟩:=stfits_of G h.rok htr h.rows_le;rw[<- hce,<- hte] at f1 f2;have hbig:=h1.big;have hP:∀ j:Nat,j<D1.many->¬ (1<=j/\j<11)->gP m E.nOut (cI p.outs (cN p rows rows.length)) N j (N j):=fun j hj _=>by
  have:=h1.pow.kept j hj;have e:=(b2.pow (P:=fun j S=>S=N j) (fun _ _=>rfl)).kept j hj
  rwa [e] at this
 have hks:=h.ksle;have hnc:=h.nc;obtain⟨c1,c2⟩:=h.kp.saved b2 aS hP aS E.k (by rw[h.ek];rfl) f2 f1;generalize eM D1 1 5 6 5 p (H:Int) E.k E.tick E.cells=K at *;unfold ji;simp only at c1 c2 ⊢;have kc':0<n+1->E.cells=de p rows E.tick.toNat/\0<=E.tick/\E.tick<=(E.nOut:Int):=fun _=>⟨h.ce,h.t0,h.t1⟩
 rcases c2 with ⟨d1,d2,N',s',d3,d4,d5,d6⟩ | ⟨d1,d2,d3,Q,d4,d5⟩
 · rw[if_neg jL]
   left
   have hm':=c1;have e1:=h1;have hN:∀ j:Nat,11<=j->N' j=N j:=fun j hj=>d6 j aS
   refine⟨rfl,⟨N',s',?_⟩,⟨_,rfl⟩,d4.waits,c1.trans a1,fun q=>d2 (b3 q)⟩;have hs2:=h.sink.congr (fun j hj=>hN _ aS);refine⟨d4.pow (fun j hj=>?_),by rw[c1];exact hbig,by rw[d4.waits];simp,by rw[d6 0 aS];exact h.root,h.feed.congr (fun j hj=>hN _ aS),h.rok,hs2,d5,kc',aS,d3,h.nin,h.no,h.t0,h.t1,h.ce,Int.le_refl _,h.t0,?_,?_,h.off,fun _=>d4.waits⟩
   · unfold gP
     split
     · rename_i q;have:=hs2.secA (more:=cI p.outs ((cN p rows rows.length).drop E.nOut)) (n:=j - (11+m)) aS;rw[<- ny p rows h.no,fN,jn,show 11+m+(j - (11+m))=j by omega] at this;exact this
     · rfl
   · show E.tick<=dG (n+1) E.tick+0
     unfold dG;rw[if_neg aS];omega
   · show dG (n+1) E.tick<=E.tick
     unfold dG;rw[if_neg aS];omega
 · rw[if_pos jL]
   right
   refine⟨d1,rfl,d2,fun q=>d3 (b3 q),c1.trans a1,_,d4,fun N' hN=>?_⟩;have hbig2:11+2 * m<=K.1.many:=by rw[c1];exact hbig
   have hno:=h.no;have ho:∀ j:Nat,j<K.1.many->¬ (1<=j/\j<11)->gP m E.nOut (cI p.outs (cN p rows rows.length)) N j (N' j):=fun j hj q=>by
    have:=hN j hj
    rwa [mP q] at this
   have hout:∀ j:Nat,j<11+m->¬ (1<=j/\j<11)->N' j=N j:=fun j hj q=>by
    have:=ho j aS q;unfold gP at this
    rwa [if_neg aS] at this
   have hsec:∀ j,j<m->SecJ 4 E.nOut (cI p.outs (cN p rows rows.length)) j (N' (11+m+j)):=fun j hj=>by
    have:=ho (11+m+j) aS aS;unfold gP at this;rw[if_pos aS,show 11+m+j - (11+m)=j by omega] at this;exact this.j
   refine⟨by rw[hout 0 aS aS];exact h.root,h.rok,Nat.le_refl _,h.rows_le,fun j hj=>?_,?_⟩
   · rw[hout (11+j) aS aS];have:=(h.feed.secA (more:=[]) hj).j
     rwa [List.append_nil,fN] at this
   · rcases d5 N' (fun j j1 j2=>by have:=hN j (show j<K.1.many by omega);rwa [kC ⟨j1,j2⟩] at this) with q | ⟨s',q⟩
     · exact⟨E.nOut,s,n,last,is,hno,hsec,q,aS,fun e=>⟨(h.kc e).1,(h.kc e).2.1,by have:=(h.kc e).2.2;omega⟩,hr⟩
     · exact⟨E.nOut,s',n+1,E.tick,E.cells,hno,hsec,q,aS,kc',by unfold dG;rw[if_neg aS];exact hr2⟩
end
