/- EngineWhole. -/
import Derived.Test.YtmeebofhlilcmaaGreatPr38
import Derived.Test.YtmeebofhlilcmaaGreatPr39
set_option maxRecDepth 100000
set_option maxHeartbeats 0
namespace Go.Proofs.YtmeebofhlilcmaaGreat
variable {w:World} {base gy c k g m many:Nat} {q:bC} {p:PV} {pace ran:Int} {gp:Option Addr} {all:List (List Int)}
open Go.RowKit
set_option linter.unusedVariables false
set_option linter.unusedSimpArgs false
theorem dH.start {x:PA}(Y:Blk w gy 73 (playC q.d x p pace gp none 0 0 none 0 0 0))(h0:base<=gy)(hp:∀ W,Below base w W->ed W base x p):dH w base gy q x p pace gp none 0 0 none 0 0 ((0:Nat):Int) [] [] :=
 ⟨Y,ea.nil _ _ _,ea.nil _ _ _,hp,h0⟩
theorem dH.setG {n e:Nat}{x:PA}{gp' A B:Option Addr}{S may:List (List Int)}{D:aX}(h:dH w base gy q x p pace gp A n c B k e ran S may)(hd:bj w base q D)(hs:base<=w.heap.size):dH (w.setCell ⟨gy,7,none⟩ (.pointer gp')) base gy q x p pace gp' A n c B k e ran S may :=
 ⟨h.blk.set_ 7 _,h.sure.playSet hd h.blk h.gy0 hs 7 _,h.may.playSet hd h.blk h.gy0 hs 7 _,fun W hW=>h.pr W ((Step.playSet (q:=q) h.blk h.gy0 hs 7 _).bel.trans hW),h.gy0⟩
theorem RdS.move {α:Type}{size n:Nat}{enc:α->List Value}{w':World}{A:Option Addr}{l:List α}{t:TypeId}{cs:List Value}(h:RdS size enc w A n l)(hg:A.map (·.block)=some g)(b:Blk w g t cs)(b':Blk w' g t cs):RdS size enc w' A n l:=by
 refine⟨h.1,h.2.1,fun h0=>?_⟩;obtain⟨b1,o,e,hb,hc⟩:=h.2.2 h0;subst e;have:b1=g:=by simpa using hg
 subst this;exact⟨b1,o,rfl,b'.lt,fun i hi=>by rw[b'.cell,<- b.cell];exact hc i hi⟩
theorem gV.fit (h:gV w base q p m c pace many k all ran):all.length<=m:=by
 obtain⟨D,_,_,hmay⟩:=h.ex;obtain⟨N,_,g,_⟩:=hmay.crash [];exact g.fit
theorem t_onOn {tick:Nat}{rep:Int}{calm:Bool}{rows:List (List Int)}(h:StOn w base q g p m c pace many calm rows tick rep):Ca 39 #[.pointer (some ⟨q.d,0,none⟩)] w fun e w'=>e=.returned (.bool true)/\w=w':=by
 obtain⟨D,E,e,⟨A,c9,hd⟩,_,_,on,_⟩:=h.ex;obtain⟨_,_,_,_,_,f6,_⟩:=on.facts;have:=on_any hd
 rwa [f6] at this
theorem t_onOff (h:gu w base q g p m c pace many k all ran):Ca 39 #[.pointer (some ⟨q.d,0,none⟩)] w fun e w'=>e=.returned (.bool false)/\w=w':=by
 obtain⟨D,E,e,⟨A,c9,hd⟩,_,_,_,hoff,_⟩:=h.ex;have:=on_any hd
 rwa [hoff] at this
end Go.Proofs.YtmeebofhlilcmaaGreat
namespace Go.Proofs.YtmeebofhlilcmaaGreat.engineWhole
variable {w:World} {base gy c k g m many:Nat} {q:bC} {p:PV} {pace ran:Int} {gp:Option Addr} {all:List (List Int)}
open Go.ChangeShapes Go.WideShapes Go.ChangeAt Go.RowKit
set_option linter.unusedVariables false
set_option linter.unusedSimpArgs false
theorem progAll_wf (h:ProgAll p):eI p :=
 ⟨fun x hx=>(h.cells x hx).2,fun x hx=>⟨(h.code x hx).2.1.2,(h.code x hx).2.2.1.2,(h.code x hx).2.2.2.1.2,(h.code x hx).2.2.2.2.1,(h.code x hx).2.2.2.2.2⟩⟩
theorem walk_out (x:PA)(p:PV)(A:Option Addr)(n c:Nat)(l:List DoW)(pc:Int)(w:World)(hp:ca w x p)(hw:eI p)(hd:DosW w A n l)(hn:n<=maxLen)
 (h:fP l=false\/(fP l=true/\¬ jH x)\/(fP l=true/\jH x/\dJ p=false)) :
 Ca 6 #[.agg #[.slice x.A1 x.n1 x.c1,.slice x.A2 x.n2 x.c2,I p.regs,.slice x.A3 x.n3 x.c3,.slice x.A4 x.n4 x.c4],.int .u8 pc,.slice A n c] w fun e w'=>e=.returned (.bool true)/\Below w.heap.size w w':=by
 have O:=ig.of hp;have hr:=fun (W:World) (h:ca W x p)=>qI h
 have hq:=fun (W:World) (h:DosW W A n l)=>few38_any A n c l W h hn
 have HD:=aT hd;clear hd;rcases h with h | ⟨h,h2⟩ | ⟨h,h2,h3⟩
 case' inl=>have hf:=True.intro;rw[h] at hq
 case' inr.inl=>have hf:=fun (W:World) (hp:ca W x p)=>few28_no x p W hp h2;rw[h] at hq
 case' inr.inr=>have hf:=fun (W:World) (hp:ca W x p)=>few28_yes x p.regs W h2;rw[h] at hq;rw[h3] at hr
 all_goals
  clear h hp;go_enter Tryz.func6,Tryz.ntmps6;go_upto_region 1 with fail;refine eG (fun W=>ig w W w.heap.size x p) O ?_;clear O;intro W O;have HB:=aT O.bel;have HX:=aT O.b;have HP:=aT O.rd;clear O;go_upto_region 3 with (first | ((go_at_call 24;(with_reducible refine (awake38 _).mono ?_);rintro e w1 ⟨rfl,hb1⟩);have B1:=aT (HB.out.trans (hb1.mono HB.out.size));have X1:=aT (HX.out.below hb1 HX.out.lt);have P1:=aT (HP.out.below (b:=W.heap.size) hb1 aW);have l1:=X1.out.lt;clear hb1) | fail);have D1:=aT (HD.out.below B1.out aW);obtain⟨y0,y1,y2,y3,y4⟩:=blk5 X1.out;go_wp2_with (first | ((go_at_call 37;(with_reducible refine (hq _ D1.out).mono ?_);rintro e w2 ⟨rfl,hb2⟩);have B2:=aT (B1.out.trans (hb2.mono B1.out.size));have X2:=aT (X1.out.below hb2 l1);have P2:=aT (P1.out.below (b:=w1.heap.size) hb2 aW);have l2:=X2.out.lt;clear y0 y1 y2 y3 y4;obtain⟨z0,z1,z2,z3,z4⟩:=blk5 X2.out;clear hb2) | ((go_at_call 15;(with_reducible refine (hf _ P2.out).mono ?_);rintro e w3 ⟨rfl,hb3⟩);have B3:=aT (B2.out.trans (hb3.mono B2.out.size));have X3:=aT (X2.out.below hb3 l2);have P3:=aT (P2.out.below (b:=w2.heap.size) hb3 aW);clear z0 z1 z2 z3 z4;obtain⟨v0,v1,v2,v3,v4⟩:=blk5 X3.out;clear hb3) | ((go_at_call 17;(with_reducible refine (hr _ P3.out).mono ?_);rintro e w4 ⟨rfl,hb4⟩);have B4:=aT (B3.out.trans (hb4.mono B3.out.size));clear hb4) | fail);go_ret
  first
   | exact⟨rfl,B4.out⟩
   | exact⟨rfl,B3.out⟩
   | exact⟨rfl,B2.out⟩
theorem walk_main (x:PA)(p:PV)(A:Option Addr)(n c:Nat)(l:List DoW)(pc:Nat)(w:World)(hp:ca w x p)(hw:eI p)(hd:DosW w A n l)(hnc:n<=c)(hn:n<=maxLen)(hv:dJ p=true)(hf:jH x)(hfl:fP l=true)(hpc:pc<=255) :
 Ca 6 #[.agg #[.slice x.A1 x.n1 x.c1,.slice x.A2 x.n2 x.c2,I p.regs,.slice x.A3 x.n3 x.c3,.slice x.A4 x.n4 x.c4],.int .u8 (pc:Nat),.slice A n c] w fun e w'=>e=.returned (.bool true)/\Below w.heap.size w w':=by
 have hn30:n<=30:=by rw[<- hd.1];exact (qG hfl).1
 have O:=ig.of hp;have hr:=fun {W:World} (h:ca W x p)=>qI h
 rw[hv] at hr;have hfw:=fun (W:World)=>few28_yes x p.regs W hf
 have hq:=fun (W:World) (h:DosW W A n l)=>few38_any A n c l W h hn
 rw[hfl] at hq;have HD:=aT hd;have V:=aT (show Env p 10 ((pc:Int) % 5+1) 31 from Env.of hv hw aS aS rfl aS aS);have hx1:x.n1<=maxLen:=ag hp.k1.1 hp.k1.2;clear hp hd hw hv hfl;go_enter Tryz.func6,Tryz.ntmps6;go_upto_region 1 with fail;refine eG (fun W=>ig w W w.heap.size x p) O ?_;clear O;intro W O;have HB:=aT O.bel;have HX:=aT O.b;have HP:=aT O.rd;clear O;go_upto_region 3 with (first | ((go_at_call 24;(with_reducible refine (awake38 _).mono ?_);rintro e w1 ⟨rfl,hb1⟩);have B1:=aT (HB.out.trans (hb1.mono HB.out.size));have X1:=aT (HX.out.below hb1 HX.out.lt);have P1:=aT (HP.out.below (b:=W.heap.size) hb1 aW);have l1:=X1.out.lt;clear hb1) | fail);have D1:=aT (HD.out.below B1.out aW);obtain⟨y0,y1,y2,y3,y4⟩:=blk5 X1.out;go_upto_region 5 with (first | ((go_at_call 37;(with_reducible refine (hq _ D1.out).mono ?_);rintro e w2 ⟨rfl,hb2⟩);have B2:=aT (B1.out.trans (hb2.mono B1.out.size));have X2:=aT (X1.out.below hb2 l1);have P2:=aT (P1.out.below (b:=w1.heap.size) hb2 aW);have l2:=X2.out.lt;clear y0 y1 y2 y3 y4;obtain⟨z0,z1,z2,z3,z4⟩:=blk5 X2.out;clear hb2) | ((go_at_call 15;(with_reducible refine (hfw _).mono ?_);rintro e w3 ⟨rfl,hb3⟩);have B3:=aT (B2.out.trans (hb3.mono B2.out.size));have X3:=aT (X2.out.below hb3 l2);have P3:=aT (P2.out.below (b:=w2.heap.size) hb3 aW);have l3:=X3.out.lt;clear z0 z1 z2 z3 z4;obtain⟨v0,v1,v2,v3,v4⟩:=blk5 X3.out;clear hb3) | ((go_at_call 17;(with_reducible refine (hr P3.out).mono ?_);rintro e w4 ⟨rfl,hb4⟩);have B4:=aT (B3.out.trans (hb4.mono B3.out.size));have X4:=aT (X3.out.below hb4 l3);have P4:=aT (P3.out.below (b:=w3.heap.size) hb4 aW);clear hb4) | fail);clear HB HX HP B1 X1 P1 l1 D1 B2 X2 P2 l2 B3 X3 P3 l3 v0 v1 v2 v3 v4 hq hfw hr;have l4:=X4.out.lt;have s1:=B4.out.size;obtain⟨rs,hrs,hok⟩:=HD.out.rows s1;have RS:=aT hrs;have HOK:=aT (show ∀ y ∈ rs ++ [(⟨5,-1,none,0,0,none,0,0⟩:DoR)],DoOk w w4.heap.size y from fun y hy=>by
  rcases List.mem_append.1 hy with q | q
  · exact hok y q
  · rw[List.mem_singleton] at q;subst q;exact DoOk.last _ _)
 have hrn:=aT hrs.1;clear hrs hok HD;have cnew:Ca 28 #[I 31,I 31] w4 fun e' w'=>∃ q,e'=.returned (.tuple #[.pointer (some ⟨q.d,0,none⟩),I 0])/\bj w' w4.heap.size q (newV 31 31)/\Below w4.heap.size w4 w':=t_new (many:=31) w4 aS aS
 have hrn:=rest_new (many:=31) aS aS;have hmn:(newV 31 31).many=31:=rfl;have hcn:(newV 31 31).cut=-1:=rfl;have cF:=fun {W:World} {base:Nat} {q:bC} (hd:bj W base q (newV 31 31)) (hs:base<=W.heap.size) (hx:ca W x p)=>c_format V.out hd hrn hmn hcn hs hx
 have PA:=aT (show ∀ W,Below w4.heap.size w4 W->ed W w4.heap.size x p from fun W hb=>ed.old (base:=w4.heap.size) P4.out hb aW);clear hrn hmn hcn;generalize newV 31 31=D0 at *;go_upto_region 6 with (first | ((go_at_call 28;(with_reducible refine (cnew).mono ?_);rintro e w5 ⟨q,rfl,d5,b5⟩);have D5:=aT d5;have B5:=aT b5;have z5:=b5.size;clear d5 b5) | fail);obtain⟨y0,y1,y2,y3,y4⟩:=blk5 (X4.out.below B5.out l4);go_upto_region 8 with (first | ((go_at_call 27;(with_reducible refine (cF D5.out z5 (PA.out _ B5.out).rd).mono ?_);rintro e w6 ⟨rfl,r6,s6⟩);have R6:=aT r6;have B6:=aT (B5.out.trans s6.bel);clear r6 s6) | fail);clear y0 y1 y2 y3 y4 D5 B5;obtain⟨y0,y1,y2,y3,y4⟩:=blk5 (X4.out.below B6.out l4);have X6:=aT (X4.out.below B6.out l4);go_upto_region 9 with fail;refine eG (fun W=>Below w6.heap.size w6 W/\Blk W w6.heap.size 73 (playC q.d x p ((pc:Int) % 5+1) none none 0 0 none 0 0 0)) ⟨bc,bK⟩ ?_;rintro w7 ⟨b7,i7⟩;have Y7:=aT (dH.start i7 R6.out.hs (fun W hb=>PA.out W (B6.out.trans ((b7.mono R6.out.hs).trans hb))));have B7:=aT (B6.out.trans (b7.mono R6.out.hs));have X7:=aT (X6.out.below b7 X6.out.lt);have R7:=aT (R6.out.below b7);clear i7 b7 y0 y1 y2 y3 y4 X6 R6 B6;generalize w6.heap.size=gy at *;have b79:Below w7.heap.size w7 w7.drew:=Below.drew (Below.refl _ _);obtain⟨y0,y1,y2,y3,y4⟩:=blk5 X7.out;obtain⟨_,_,_,_,_,_,q6,_,_,_,_⟩:=eW Y7.out.blk;have c9:=c_open V.out (R7.out.below b79) (PA.out _ (B7.out.trans (b79.mono R7.out.hs))) aS rfl;go_region_held3 (fun w'=>w'.cell? ⟨w.heap.size,0,none⟩=some (.slice x.A1 x.n1 x.c1)/\w'.cell? ⟨w.heap.size,1,none⟩=some (.slice x.A2 x.n2 x.c2)/\w'.cell? ⟨w.heap.size,2,none⟩=some (I p.regs)/\w'.cell? ⟨w.heap.size,3,none⟩=some (.slice x.A3 x.n3 x.c3)/\w'.cell? ⟨w.heap.size,4,none⟩=some (.slice x.A4 x.n4 x.c4)/\w'.cell? ⟨gy,6,none⟩=some (I ((pc:Int) % 5+1))) (first | go_keep | (refine⟨?_,?_,?_,?_,?_,?_⟩ <;> assumption)) (first | ((go_at_call 25;(with_reducible refine (c9).mono ?_);rintro e w8 ⟨g8,rep8,rfl,o8,s8⟩);obtain⟨D9,hd9⟩:=(R7.out.below b79).disk;have Y8:=aT ((Y7.out.below b79 R7.out.hs).step hd9 s8);have B8:=aT (B7.out.trans ((b79.mono R7.out.hs).trans s8.bel));have O8:=aT o8;have X8:=aT (X7.out.below ((b79.mono R7.out.hs).trans s8.bel) l4);clear hd9 o8 s8;obtain⟨y0,y1,y2,y3,y4⟩:=blk5 X8.out;obtain⟨_,_,_,_,_,_,q6,q7,_,_,_⟩:=eW Y8.out.blk;have f7:=Y8.out.blk.frozen 7;have gl:=Y8.out.blk.lt) | fail);clear b79 c9 R7 Y7 B7 X7 y0 y1 y2 y3 y4 q6;go_upto_region 13 with fail;obtain⟨D9,hd9⟩:=O8.out.disk;have Y9:=aT (dH.setG (gp':=some ⟨g8,0,none⟩) Y8.out hd9 O8.out.hs);have O9:=aT (O8.out.playSet Y8.out.blk Y8.out.gy0 7 (.pointer (some ⟨g8,0,none⟩)));have B9:=aT (B8.out.setCell (p:=⟨gy,7,none⟩) Y8.out.gy0 (.pointer (some ⟨g8,0,none⟩)));clear hd9 q7 f7 gl Y8 O8 B8 X8 cnew cF X4;generalize w8.setCell ⟨gy,7,none⟩ (.pointer (some ⟨g8,0,none⟩))=w9 at *;have H30:=aT (show (rs ++ [(⟨5,-1,none,0,0,none,0,0⟩:DoR)]).length=n+1 by rw[az,hrn.out];rfl);have HL:=aT (RS.out.below (B4.out.trans (B9.out.mono s1)) aW);have s9:=B9.out.size;have HE:=aT (show ([]:List DoR) ++ rs=rs from rfl)
 go_upto_region 14 with (first | (at_builtin;refine mn rfl rfl elemDo doRc_one (s:=.tmp 65) (N:=n) (L:=rs) rfl (OwS.empty 4 doRc w9 75) rfl (k:=rs) (HL.out.below (b:=w9.heap.size) ((Below.refl _ _).alloc aW _) aW) aS HE.out bM aS be ?_;intro A2 c2 w10 hown2 hg2 hat2 hb2;have b10:Below w9.heap.size w9 w10:=((Below.refl _ _).alloc aW _).trans hb2;have z10:=b10.size) | (at_builtin;refine mn rfl rfl elemDo doRc_one (s:=.tmp 67) (N:=n+1) (L:=rs ++ [(⟨5,-1,none,0,0,none,0,0⟩:DoR)]) rfl (hown2.below (b:=w10.heap.size) bc aW) rfl (k:=[(⟨5,-1,none,0,0,none,0,0⟩:DoR)]) (RdS.of_block (l:=[(⟨5,-1,none,0,0,none,0,0⟩:DoR)]) (dr _ _ ba) mm rfl) rfl rfl bM aS be ?_;intro A3 c3 w11 hown3 hg3 hat3 hb3;have b11:Below w9.heap.size w9 w11:=b10.trans (((Below.refl w9.heap.size w10).alloc b10.size _).trans hb3)) | fail);clear hown2 hg2 hat2 hb2 b10 hg3 hat3 hb3 HE HL y0 y1 y2 y3 y4 q6;have Y11:=aT (Y9.out.below b11 O9.out.hs);have O11:=aT (O9.out.below b11);have B11:=aT (B9.out.trans (b11.mono s9));obtain⟨gd,od,rfl,hgd⟩:∃ gd od,A3=some ⟨gd,od,none⟩/\gd<w11.heap.size:=by
  obtain⟨b,o,e,hb,_⟩:=hown3.rd.2.2 aS;exact⟨b,o,e,hb⟩
 obtain⟨CS,hCS⟩:=hown3.blkC (g:=gd) rfl;have HD:=aT (show ∀ W,Blk W gd 75 CS->RdS 4 doRc W (some ⟨gd,od,none⟩) (n+1) (rs ++ [(⟨5,-1,none,0,0,none,0,0⟩:DoR)]) from fun W hW=>RdS.move hown3.rd rfl hCS hW);have C11:=aT hCS;clear hown3 hCS b11 Y9 O9 B9 hgd;generalize rs ++ [(⟨5,-1,none,0,0,none,0,0⟩:DoR)]=RL at *;go_loopw [13,72] (fun _ i wr=>∃ (k g nA cA:Nat) (A1:Option Addr) (tick:Nat) (rep:Int) (calm:Bool) (S:List (List Int)),k<=n+1/\i=I (k:Nat)/\Hid (dH wr w4.heap.size gy q x p ((pc:Int) % 5+1) (some ⟨g,0,none⟩) A1 nA cA none 0 0 (tick:Nat) S [])/\Hid (StOn wr w4.heap.size q g p 10 (2000+6000 * k) ((pc:Int) % 5+1) 31 calm S tick rep)/\Hid (Bel2 w4.heap.size w11 wr)) (fun _ i _=>n+1 - (intOf i).toNat)
 case atStart=>exact⟨0,g8,0,0,none,0,rep8,true,[],aS,rfl,Y11.out,O11.out,Bel2.refl _ _⟩
 case round=>
  clear Y11 O11;obtain⟨k,g,nA,cA,A1,tick,rep,calm,S,hk,rfl,hY,hO,hB⟩:=hrel
  by_cases hlt:k<n+1
  · obtain⟨b,o,y,e9,hbl,hy,hc⟩:=(HD.out wr (hB.out.keep _ _ C11.out)).at_ mm aS hlt;simp only[Option.some.injEq,Addr.mk.injEq,and_true] at e9;obtain⟨rfl,rfl⟩:=e9;have e0:wr.cell? ⟨gd,od+k * 4,none⟩=some (I y.k):=hc 0 aS;have e1:wr.cell? ⟨gd,od+k * 4+1,none⟩=some (I y.n):=hc 1 aS;have e2:wr.cell? ⟨gd,od+k * 4+2,none⟩=some (.slice y.B1 y.n1 y.c1):=hc 2 aS;have e3:wr.cell? ⟨gd,od+k * 4+3,none⟩=some (.slice y.B2 y.n2 y.c2):=hc 3 aS;have HYOK:=aT (HOK.out y (List.mem_of_getElem? hy));clear hc hy;go_upto_region 16 with fail;refine eG (fun W=>Below wr.heap.size wr W/\Blk W wr.heap.size 75 (doRc y)) ⟨bc,bK⟩ ?_;rintro wb ⟨bb,hx⟩;have YB:=aT (hY.out.below bb hO.out.hs);have OB:=aT (hO.out.below bb);have BB:=aT (hB.out.trans (Bel2.of bb hO.out.hs));have XB:=aT hx;clear bb hx e0 e1 e2 e3 hY hO hB hbl;generalize wr.heap.size=gb at *;obtain⟨hn1,hn2,hn3,li,bs,hiok,hall⟩:=HYOK.out;have HALL:=aT (show ∀ W,Below w4.heap.size w11 W->cu W w4.heap.size y.B1 y.n1 li/\RB W y.B2 y.n2 bs from fun W hW=>hall W (B4.out.trans ((B11.out.trans hW).mono s1)));clear hall;go_cut [84] (fun v wx=>v=.bool false/\Hid (StepR wx w4.heap.size gy q x p 10 (2000+6000 * k) ((pc:Int) % 5+1) 31)/\Hid (Blk wx gb 75 (doRc y))/\Hid (Bel2 w4.heap.size w11 wx))
    case first=>
     have e0:wb.cell? ⟨gb,0,none⟩=some (I y.k):=XB.out.c0;have e1:wb.cell? ⟨gb,1,none⟩=some (I y.n):=XB.out.c1;have e2:wb.cell? ⟨gb,2,none⟩=some (.slice y.B1 y.n1 y.c1):=XB.out.c2;have e3:wb.cell? ⟨gb,3,none⟩=some (.slice y.B2 y.n2 y.c2):=XB.out.c3
     by_cases hk5:y.k<5
     · have c5:=plstep_any (kd:=y.k) (N:=y.n) (Bx:=y.B2) (nb:=y.n2) (nd:=y.c2) (C:=y.B1) (nq:=y.n1) (e9:=y.c1) V.out OB.out YB.out rfl (HALL.out _ BB.out.bel).1 hiok hx1 hn1 aS;go_wp2_with (first | ((go_at_call 38;(with_reducible refine (c5).mono ?_);rintro e w12 ⟨rfl,r12,b12⟩);have R12:=aT r12;have X12:=aT (b12.keep _ _ XB.out);have B12:=aT (BB.out.trans b12);clear r12 b12) | fail);go_meet;exact⟨rfl,R12.out,X12.out,B12.out⟩
     · go_wp2_with fail;go_meet;exact⟨rfl,.inl ⟨g,A1,nA,cA,tick,rep,calm,S,YB.out,OB.out.more aS⟩,XB.out,BB.out⟩
    case rest=>
     obtain⟨rfl,hR,hX,hB⟩:=hcut;clear YB OB BB XB
     rename World=>wx
     have e0:wx.cell? ⟨gb,0,none⟩=some (I y.k):=hX.out.c0;have e1:wx.cell? ⟨gb,1,none⟩=some (I y.n):=hX.out.c1;have e2:wx.cell? ⟨gb,2,none⟩=some (.slice y.B1 y.n1 y.c1):=hX.out.c2;have e3:wx.cell? ⟨gb,3,none⟩=some (.slice y.B2 y.n2 y.c2):=hX.out.c3;rcases hR.out with ⟨g,A1,nA,cA,tick,rep,calm,S,pY,pO⟩ | ⟨g,A1,nA,cA,B5,k5,c5,ran,S,may,pY,pO,r0,r1⟩
     · have OB:=aT pO;have YB:=aT pY;have con:=t_onOn pO;have hle:=pO.le;have hst:gV wx w4.heap.size q p 10 (2000+6000 * k+2000) ((pc:Int) % 5+1) 31 nA (S ++ []) (tick:Nat):=by
        have:=pO.may;rw[pY.sure.len.1] at this;rw[List.append_nil];exact this
       have cb:=back_any (kind:=y.k) (N:=y.n) (Bx:=y.B2) (nb:=y.n2) (nd:=y.c2) (C:=y.B1) (q9:=y.n1) (e9:=y.c1) (bs:=bs) V.out hst pY (fun W hW=>(HALL.out W (hB.out.bel.trans hW)).2) hn3 hn2 hn1 aS (by have:=hst.fit;omega) aS aS aS;clear pO pY hst hle hR
       by_cases hk5:y.k=5
       · have k5b:(y.k == 5)=true:=by rw[beq_iff_eq];exact hk5
         clear hk5;go_wp2_with (first | ((go_at_call 40;(with_reducible refine (cb).mono ?_);rintro e w13 ⟨rfl,⟨g6,A6,n6,c6,rep6,R6,y6,o6⟩,b13⟩);have Y13:=aT y6;have O13:=aT (o6.more (c':=2000+6000 * (k+1)) aS);have B13:=aT (hB.out.trans b13);clear y6 o6 b13) | fail);go_roundw
         case rel=>first
          | exact⟨k+1,g6,n6,c6,A6,n6,rep6,true,R6,aS,by go_num,Y13.out,O13.out,B13.out⟩
          | ((repeat apply Exists.intro);exact⟨⟨k+1,g6,n6,c6,A6,n6,rep6,true,R6,aS,by go_num,Y13.out,O13.out,B13.out⟩,rfl⟩)
         case measure=>simp[intOf];omega
       · have k5b:(y.k == 5)=false:=by rw[ae];exact hk5
         clear hk5;go_wp2_with (first | (go_at_call 39;(with_reducible refine (con).mono ?_);rintro e w12 ⟨rfl,rfl⟩) | fail);go_roundw
         case rel=>first
          | exact⟨k+1,g,nA,cA,A1,tick,rep,calm,S,aS,by go_num,YB.out,OB.out.more aS,hB.out⟩
          | ((repeat apply Exists.intro);exact⟨⟨k+1,g,nA,cA,A1,tick,rep,calm,S,aS,by go_num,YB.out,OB.out.more aS,hB.out⟩,rfl⟩)
         case measure=>simp[intOf];omega
     · have con:=t_onOff pO;have cb:=back_any (kind:=y.k) (N:=y.n) (Bx:=y.B2) (nb:=y.n2) (nd:=y.c2) (C:=y.B1) (q9:=y.n1) (e9:=y.c1) (bs:=bs) V.out pO.may pY (fun W hW=>(HALL.out W (hB.out.bel.trans hW)).2) hn3 hn2 hn1 aS (by have:=pO.may.fit;omega) aS aS aS;clear pO pY hR
       by_cases hk5:y.k=5
       · have k5b:(y.k == 5)=true:=by rw[beq_iff_eq];exact hk5
         clear hk5;go_wp2_with (first | ((go_at_call 40;(with_reducible refine (cb).mono ?_);rintro e w13 ⟨rfl,⟨g6,A6,n6,c6,rep6,R6,y6,o6⟩,b13⟩);have Y13:=aT y6;have O13:=aT (o6.more (c':=2000+6000 * (k+1)) aS);have B13:=aT (hB.out.trans b13);clear y6 o6 b13) | fail);go_roundw
         case rel=>first
          | exact⟨k+1,g6,n6,c6,A6,n6,rep6,true,R6,aS,by go_num,Y13.out,O13.out,B13.out⟩
          | ((repeat apply Exists.intro);exact⟨⟨k+1,g6,n6,c6,A6,n6,rep6,true,R6,aS,by go_num,Y13.out,O13.out,B13.out⟩,rfl⟩)
         case measure=>simp[intOf];omega
       · have k5b:(y.k == 5)=false:=by rw[ae];exact hk5
         clear hk5;go_wp2_with (first | (go_at_call 39;(with_reducible refine (con).mono ?_);rintro e w12 ⟨rfl,rfl⟩) | ((go_at_call 40;(with_reducible refine (cb).mono ?_);rintro e w13 ⟨rfl,⟨g6,A6,n6,c6,rep6,R6,y6,o6⟩,b13⟩);have Y13:=aT y6;have O13:=aT (o6.more (c':=2000+6000 * (k+1)) aS);have B13:=aT (hB.out.trans b13);clear y6 o6 b13) | fail);go_roundw
         case rel=>first
          | exact⟨k+1,g6,n6,c6,A6,n6,rep6,true,R6,aS,by go_num,Y13.out,O13.out,B13.out⟩
          | ((repeat apply Exists.intro);exact⟨⟨k+1,g6,n6,c6,A6,n6,rep6,true,R6,aS,by go_num,Y13.out,O13.out,B13.out⟩,rfl⟩)
         case measure=>simp[intOf];omega
  · have hk9:k=n+1:=aS;subst hk9;go_wp2_with fail;go_ret;exact⟨rfl,B4.out.trans (B11.out.mono s1) |>.trans (hB.out.bel.mono s1)⟩
theorem walk (w:World)(v0:Value)(x0:∃ x p,v0=.agg #[.slice x.A1 x.n1 x.c1,.slice x.A2 x.n2 x.c2,I p.regs,.slice x.A3 x.n3 x.c3,.slice x.A4 x.n4 x.c4]/\ca w x p/\ProgAll p)(pc:Int)(wc:(Lit.int .u8 pc).wf=true)(v2:Value)(x2:∃ A n c l,v2=.slice A n c/\DosW w A n l/\n<=c/\c<=maxLen) :
 Ca 6 #[v0,.int .u8 pc,v2] w fun e w'=>e=.returned (.bool true)/\Below w.heap.size w w':=by
 obtain⟨x,p,rfl,hp,hpa⟩:=x0;obtain⟨A,n,c,l,rfl,hl,hnc,hcm⟩:=x2;have hw:eI p:=progAll_wf hpa;have hb:=bounds_u8 wc
 by_cases h:fP l=false\/(fP l=true/\¬ jH x)\/(fP l=true/\jH x/\dJ p=false)
 · exact walk_out x p A n c l pc w hp hw hl aS h
 · have h1:fP l=true:=by
    cases hb:fP l with
    | true=>rfl
    | false=>exact absurd (.inl hb) h
   have hf:jH x:=Classical.byContradiction fun q=>h (.inr (.inl ⟨h1,q⟩))
   have hv:dJ p=true:=by
    cases hb:dJ p with
    | true=>rfl
    | false=>exact absurd (.inr (.inr ⟨h1,hf,hb⟩)) h
   obtain⟨k,rfl⟩:∃ k:Nat,pc=(k:Nat):=⟨pc.toNat,aS⟩;exact walk_main x p A n c l k w hp hw hl hnc aS hv hf h1 aS
theorem own:ownKnob Tryz.prog.godebug=none:=by kernel_rfl
theorem laidOut:laidOutB Tryz.prog=true:=by kernel_rfl
theorem lifted (os:Os)(started:os.Started)(H:Type)(enc:TypeId × Value->H) :
 ReturnsInHanded {} Tryz.checked os 6 .any (Rows.engineWholeSpec.pre6 enc Tryz.prog Tryz.f6 Rows.engineWholeRow.domain false) (Rows.engineWholeSpec.post enc Tryz.prog Tryz.f6 false true false false):=by
 refine returnsInHanded_of_change (C:=Tryz.checked) own started bP Tryz.func6
  (ChangeSpec.witness6 (enc:=enc) (C:=Tryz.checked) false ⟨#[],#[.agg #[.slice none 0 0,.slice none 0 0,I 0,.slice none 0 0,.slice none 0 0],.int .u8 0,.slice none 0 0],[]⟩ 8 bP bP bP bP) ?_
 intro W base args ds gs before hval0 hW hcnd _;have hval:∀ (j:Nat) t v,Tryz.f6.params[j]?=some t->args[j]?=some v->Value.okWide Tryz.prog W .any base t v:=hval0;have hW':=hW;obtain⟨p,q,hA0,hV,rfl,hfz,hnd⟩:=hW;have hA:DataW.TrodAll enc Tryz.prog W 0 (fun _=>true) true Tryz.f6.params.toList args.toList ds p:=hA0;rw[Tryz.params6] at hA hval;obtain⟨v0,rk,d0,ds0,p0,q0,hargs,rfl,rfl,h0,rr0⟩:=trodAll_cons hA;obtain⟨v1,rm,d1,ds1,p1,q1,rfl,rfl,rfl,h1,rr1⟩:=trodAll_cons rr0;obtain⟨v2,rp,d2,ds2,p2,q2,rfl,rfl,rfl,h2,rr2⟩:=trodAll_cons rr1;obtain⟨rfl,rfl,rfl⟩:=trodAll_nil rr2;obtain rfl:args=#[v0,v1,v2]:=by cases args;simp_all
 obtain⟨rfl,rfl⟩:=trodVars_none hV;have k0:=h0;have lt0:∀ x ∈ p0,x.block<W.heap.size:=by obtain⟨m,hm⟩:=k0;exact DataW.trod_lt m _ _ _ hm
 have x0:=args_prog (hval 0 26 v0 rfl rfl) h0;have k1:=h1;have lt1:∀ x ∈ p1,x.block<W.heap.size:=by obtain⟨m,hm⟩:=k1;exact DataW.trod_lt m _ _ _ hm
 obtain⟨a1,rfl,wf1⟩:=args_int Tryz.underlying5 (hval 1 5 v1 rfl rfl) h1;have k2:=h2;have lt2:∀ x ∈ p2,x.block<W.heap.size:=by obtain⟨m,hm⟩:=k2;exact DataW.trod_lt m _ _ _ hm
 have x2:=args_dos38 (hval 2 69 v2 rfl rfl) h2;clear hA0 hval0;refine (walk W v0 x0 a1 wf1 v2 x2).mono fun e W' ⟨he,bel⟩=>?_
 subst he;exact⟨_,rfl,_,_,_,[],_,[],hW',trodAll_mk1 (shut_bool Tryz.underlying4 _),(trodAll_cons_mk (Below.trod laidOut bP (of_decide_eq_true bP) k0 bel lt0) (trodAll_cons_mk (Below.trod laidOut bP (of_decide_eq_true bP) k1 bel lt1) (trodAll_cons_mk (Below.trod laidOut bP (of_decide_eq_true bP) k2 bel lt2) trodAll_mk0))),rfl,bel.frame _,fun h=>by cases h⟩
theorem cInPlace:(Rows.engineWholeRow.inPlace == Tryz.prog.inPlace 6)=true:=by kernel_rfl
theorem cUnfollowed:(Rows.engineWholeRow.unfollowed == Tryz.prog.unfollowed 6)=true:=by kernel_rfl
theorem cRecurses:(Rows.engineWholeRow.recurses == Tryz.prog.recurses 6)=true:=by kernel_rfl
theorem cNamed:(Rows.engineWholeRow.named == Tryz.prog.varsNamed 6)=true:=by kernel_rfl
theorem closed:joinedFacts Tryz.prog 6 Tryz.f6 Rows.engineWholeSpec Rows.engineWholeRow=true:=by
 unfold joinedFacts;rw[cInPlace,cUnfollowed,cRecurses,cNamed]
 kernel_rfl
theorem over:Rows.engineWholeRow.holds Tryz.pinned (OpenSpec.ofChange Rows.engineWholeSpec) :=
 OpenClaim.holds_of_wide 6 Tryz.f6 rfl rfl rfl rfl rfl rfl rfl ⟨rfl,rfl,rfl,rfl,rfl⟩ rfl rfl rfl rfl rfl bP Tryz.func6 closed
  (of_decide_eq_true bP) (by unfold Func.isWrapper;first | (rw[if_pos bR];kernel_rfl) | (rw[if_neg bR];exact⟨rfl,rfl⟩))
  (fun os started H enc _=>lifted os started H enc)
theorem proved:Rows.EngineWholeSaid:=over
end Go.Proofs.YtmeebofhlilcmaaGreat.engineWhole
