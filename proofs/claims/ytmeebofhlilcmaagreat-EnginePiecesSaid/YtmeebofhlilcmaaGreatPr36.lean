/- Parts. -/
import Derived.Test.YtmeebofhlilcmaaGreatPr35
set_option linter.unusedVariables false
set_option linter.unusedSimpArgs false
set_option maxRecDepth 100000
set_option maxHeartbeats 0
namespace Go.Proofs.YtmeebofhlilcmaaGreat
open Go.RowKit
theorem fGetV_row {D:aY}{f m next:Nat}{kind:Int}{ts:List Int}{n:Int}(h:(dL D f m kind next ts n).2.2=0):cx ts (dL D f m kind next ts n).2.1=true/\eZ (dL D f m kind next ts n).2.1:=by
 unfold dL at h ⊢
 by_cases h1:(fw D f m kind next n).2.2≠0
 · rw[if_pos h1] at h;exact absurd h h1
 · rw[if_neg h1] at h ⊢
   by_cases h2:(eK ts (fw D f m kind next n).2.1).2≠0
   · rw[if_pos h2] at h;simp at h
   · rw[if_neg h2];obtain⟨a,_,b⟩:=readR_back (ts:=ts) (b:=(fw D f m kind next n).2.1) aS;exact⟨a,b⟩
theorem intok_in {l:List Int}(h:eZ l):∀ z ∈ l,In64 z:=fun z hz=>by
 obtain⟨i,hi,rfl⟩:=List.getElem_of_mem hz;have:=h i hi;unfold ba at this
 rwa [ag,ap hi] at this
theorem in_intok {l:List Int}(h:∀ z ∈ l,In64 z):eZ l:=fun i hi=>by
 have:=h _ (List.getElem_mem hi);unfold ba;rw[ag,ap hi];exact this
section
variable {w w':World} {base g m:Nat} {q:bJ} {D:aY} {e:EP} {p:PV} {hash pace:Int} {E:EgV}
theorem one_any (h:cQ w base q g e m p hash pace E)(ok:EgOk m p E)(G:PrgW p m)(hd:br w base q D)(hs:base<=w.heap.size)(big:11+2 * m<=D.many)(ht:E.tick<(E.nIn:Int))(hwt:D.waits.length<800000) :
 Ca 126 #[.pointer (some ⟨g,0,none⟩)] w fun e' w'=>∃ A n c,e'=.returned (I (bM m p D E).2.2)/\EngS w w' base q g { e with A:=A,n:=n,c:=c } m p hash pace (bM m p D E).1 (bM m p D E).2.1:=by
 have hm2:=G.m2;have hni:=ok.i0;have hno:=ok.o0;have t0:=ok.t0;have p0:=ok.p0;have p1:=ok.p1;have hb1:Below w.heap.size w w.drew:=Below.drew (Below.refl _ _);have X1:=(EngX.of h hd (Step.refl mutE base q w) hs).below hb1;obtain⟨c0,c1,c2,c3,c4,c5,c6,c7,c8,c9,c10⟩:=h.words;have hget:=fdget_any X1.r.inn X1.d X1.hs X1.r.al aS aS E.tick;have hrow:=@fGetV_row D 11 m E.nIn 3 p.ins E.tick;have hmany:=fGetV_many D 11 m 3 E.nIn p.ins E.tick;have hkeep:=me D 11 m 3 E.nIn p.ins E.tick;have hone:bM m p D E=iD m p E (dL D 11 m 3 E.nIn p.ins E.tick):=rfl;rw[hone];clear hone hb1 h hd;have HX1:=aT X1;clear X1;generalize dL D 11 m 3 E.nIn p.ins E.tick=R at *;obtain⟨D1,l,z1⟩:=R;simp only at hget hrow hmany hkeep;have hw1:D1.waits.length<800000:=by obtain⟨o,e⟩:=hkeep;rw[e];exact hwt
 clear hkeep
 by_cases hz1:z1=0
 rotate_left 1
 · have hzb:(z1 != 0)=true:=by rw[af];exact hz1
   have hun:iD m p E (D1,l,z1)=(D1,E,z1):=by unfold iD;rw[if_pos hz1]
   rw[hun];clear hun hz1 hrow;go_enter Tryz.func126,Tryz.ntmps126;go_upto_region 1 with fail;go_region_held3 (fun w'=>w'.cell? ⟨g,1,none⟩=some (.pointer (some ⟨e.gi,0,none⟩))/\w'.cell? ⟨g,6,none⟩=some (I E.tick)) (first | go_keep | (refine⟨?_,?_⟩ <;> assumption)) (first | ((go_at_call 210;go_call (hget) as e' w2 ⟨B,k,d,rfl,o2,d2,s2⟩);have X2:=aT (HX1.out.stepD d2 s2);obtain⟨c0,c1,c2,c3,c4,c5,c6,c7,c8,c9,c10⟩:=(show cQ w2 base q g e m p hash pace E from ⟨X2.out.b,X2.out.gb,X2.out.r⟩).words) | fail);go_wp2_with fail;go_ret;exact⟨e.A,e.n,e.c,rfl,X2.out.done rfl⟩
 subst hz1;obtain⟨f1,f2⟩:=hrow rfl;have l64:=intok_in f2;have hfits:(gu p E.cells && cx p.ins l)=true:=by rw[ok.cf,f1];rfl
 obtain⟨_,_,_,g4,g5⟩:=mo G.hv G.hw ok.cf f1 ok.c64 l64;have hT:eO p E.cells l=((goV p E.cells l 0 (ea p E.cells)).next,(goV p E.cells l 0 (ea p E.cells)).out,(goV p E.cells l 0 (ea p E.cells)).steps,0):=by unfold eO;rw[if_pos hfits]
 have hun:iD m p E (D1,l,0)=gK E (eO p E.cells l) (eY D1 (11+m) m 4 E.nOut p.outs E.tick (eO p E.cells l).2.1):=by
  unfold iD;rw[if_neg bj];unfold eOneB;simp only;rw[hT,if_neg bj]
 rw[hun];have i5:=in_intok g5;have htk:=fun (W:World) (B:Option Addr) (k d:Nat) (h1:gV W base e.gm e.y p) (h2:dx W base e.A e.n E.cells) (h3:RI W B k l) (hk:k<=maxLen)=>mtick_yes h1 G.hv G.hw e.A e.n e.c E.cells h2.ri (by have:=h2.ri.1;have:=(ia.1 ok.cf).1;have:=G.c60;omega) B k d l h3 hk ok.c64 l64 ok.cf f1
 rw[hT] at i5 ⊢;simp only at i5 ⊢;clear hT hun g4 g5 hfits hrow f1 f2 l64;generalize (goV p E.cells l 0 (ea p E.cells)).next=nx at *;generalize (goV p E.cells l 0 (ea p E.cells)).out=ou at *;generalize (goV p E.cells l 0 (ea p E.cells)).steps=sp at *;have hput:=fun (W:World) (B:Option Addr) (k d:Nat) (X:EngX w W base q g (engC e pace E) e m p hash D1 E.nIn E.nOut E.k E.cells) (hl:RI W B k ou) (hk:k<=maxLen)=>skputO_any X.r.out X.d X.hs X.r.as_ aS aS hno aS G.outs E.tick B k d hl hk i5
 generalize eY D1 (11+m) m 4 E.nOut p.outs E.tick ou=S at *;obtain⟨D3,no3,fr,z3⟩:=S;simp only at hput;clear i5 hwt hw1 ok G
 by_cases hz3:z3=0
 rotate_left 1
 · have hzb:(z3 != 0)=true:=by rw[af];exact hz3
   have hun:gK E (nx,ou,sp,0) (D3,no3,fr,z3)=(D3,{ E with nOut:=no3 },z3):=by unfold gK;rw[if_pos hz3]
   rw[hun];clear hun hz3;go_enter Tryz.func126,Tryz.ntmps126;go_upto_region 1 with fail;go_region_held3 (fun w'=>w'.cell? ⟨g,1,none⟩=some (.pointer (some ⟨e.gi,0,none⟩))/\w'.cell? ⟨g,6,none⟩=some (I E.tick)) (first | go_keep | (refine⟨?_,?_⟩ <;> assumption)) (first | ((go_at_call 210;go_call (hget) as e' w2 ⟨B2,k2,d2',rfl,o2,d2,s2⟩);have X2:=aT (HX1.out.stepD d2 s2);obtain⟨c0,c1,c2,c3,c4,c5,c6,c7,c8,c9,c10⟩:=(show cQ w2 base q g e m p hash pace E from ⟨X2.out.b,X2.out.gb,X2.out.r⟩).words) | fail);have X2d:=aT (X2.out.below (Below.drew (Below.refl _ _)));have I2d:=aT (o2.below (Below.drew (Below.refl _ _)) aV);have htk2:=htk w2.drew B2 k2 d2' X2d.out.r.mach X2d.out.r.ce I2d.out.rd.ri (aj I2d.out.cap.1 I2d.out.cap.2);go_upto_region 4 with fail;go_region_held3 (fun w'=>w'.cell? ⟨g,0,none⟩=some (.pointer (some ⟨e.gm,0,none⟩))/\w'.cell? ⟨g,4,none⟩=some (.slice e.A e.n e.c)) (first | go_keep | (refine⟨?_,?_⟩ <;> assumption)) (first | ((go_at_call 170;go_call (htk2) as e' w3 ⟨An,cn,Ao,co,rfl,on,oo,b3⟩);have X3:=aT (X2d.out.below b3);obtain⟨c0,c1,c2,c3,c4,c5,c6,c7,c8,c9,c10⟩:=(show cQ w3 base q g e m p hash pace E from ⟨X3.out.b,X3.out.gb,X3.out.r⟩).words) | fail);have X3d:=aT (X3.out.below (Below.drew (Below.refl _ _)));have ON:=aT (on.below (Below.drew (Below.refl _ _)) aV);have OO:=aT (oo.below (Below.drew (Below.refl _ _)) aV);have hput3:=hput w3.drew Ao e.y.n2 co X3d.out OO.out.rd.ri (aj OO.out.cap.1 OO.out.cap.2);go_upto_region 7 with fail;go_region_held3 (fun w'=>w'.cell? ⟨g,2,none⟩=some (.pointer (some ⟨e.go,0,none⟩))/\w'.cell? ⟨g,6,none⟩=some (I E.tick)) (first | go_keep | (refine⟨?_,?_⟩ <;> assumption)) (first | ((go_at_call 211;go_call (hput3) as e' w4 ⟨rfl,d4,j4,s4,q4⟩);have X4:=aT (X3d.out.stepS d4 s4 q4 j4);obtain⟨c0,c1,c2,c3,c4,c5,c6,c7,c8,c9,c10⟩:=(show cQ w4 base q g e m p hash pace { E with nOut:=no3 } from ⟨X4.out.b,X4.out.gb,X4.out.r⟩).words;have C4:=aT ((dx.of_ow (base:=base) ON.out).step X3d.out.d s4 aU)) | fail);go_wp2_with fail;go_ret;exact⟨e.A,e.n,e.c,rfl,X4.out.done rfl⟩
 subst hz3;have hun:gK E (nx,ou,sp,0) (D3,no3,fr,0)=(D3,{ E with nOut:=no3,put:=E.put || fr,tick:=E.tick+1,cells:=nx,passed:=E.passed+1 },0):=by unfold gK;rw[if_neg bj]
 rw[hun];clear hun
 cases hpu:E.put with
 | false=>
   rw[hpu] at c9;go_enter Tryz.func126,Tryz.ntmps126;go_upto_region 1 with fail;go_region_held3 (fun w'=>w'.cell? ⟨g,1,none⟩=some (.pointer (some ⟨e.gi,0,none⟩))/\w'.cell? ⟨g,6,none⟩=some (I E.tick)) (first | go_keep | (refine⟨?_,?_⟩ <;> assumption)) (first | ((go_at_call 210;go_call (hget) as e' w2 ⟨B2,k2,d2',rfl,o2,d2,s2⟩);have X2:=aT (HX1.out.stepD d2 s2);obtain⟨c0,c1,c2,c3,c4,c5,c6,c7,c8,c9,c10⟩:=(show cQ w2 base q g e m p hash pace E from ⟨X2.out.b,X2.out.gb,X2.out.r⟩).words) | fail);have X2d:=aT (X2.out.below (Below.drew (Below.refl _ _)));have I2d:=aT (o2.below (Below.drew (Below.refl _ _)) aV);have htk2:=htk w2.drew B2 k2 d2' X2d.out.r.mach X2d.out.r.ce I2d.out.rd.ri (aj I2d.out.cap.1 I2d.out.cap.2);go_upto_region 4 with fail;go_region_held3 (fun w'=>w'.cell? ⟨g,0,none⟩=some (.pointer (some ⟨e.gm,0,none⟩))/\w'.cell? ⟨g,4,none⟩=some (.slice e.A e.n e.c)) (first | go_keep | (refine⟨?_,?_⟩ <;> assumption)) (first | ((go_at_call 170;go_call (htk2) as e' w3 ⟨An,cn,Ao,co,rfl,on,oo,b3⟩);have X3:=aT (X2d.out.below b3);obtain⟨c0,c1,c2,c3,c4,c5,c6,c7,c8,c9,c10⟩:=(show cQ w3 base q g e m p hash pace E from ⟨X3.out.b,X3.out.gb,X3.out.r⟩).words) | fail);have X3d:=aT (X3.out.below (Below.drew (Below.refl _ _)));have ON:=aT (on.below (Below.drew (Below.refl _ _)) aV);have OO:=aT (oo.below (Below.drew (Below.refl _ _)) aV);have hput3:=hput w3.drew Ao e.y.n2 co X3d.out OO.out.rd.ri (aj OO.out.cap.1 OO.out.cap.2);go_upto_region 7 with fail;go_region_held3 (fun w'=>w'.cell? ⟨g,2,none⟩=some (.pointer (some ⟨e.go,0,none⟩))/\w'.cell? ⟨g,6,none⟩=some (I E.tick)) (first | go_keep | (refine⟨?_,?_⟩ <;> assumption)) (first | ((go_at_call 211;go_call (hput3) as e' w4 ⟨rfl,d4,j4,s4,q4⟩);have X4:=aT (X3d.out.stepS d4 s4 q4 j4);obtain⟨c0,c1,c2,c3,c4,c5,c6,c7,c8,c9,c10⟩:=(show cQ w4 base q g e m p hash pace { E with nOut:=no3 } from ⟨X4.out.b,X4.out.gb,X4.out.r⟩).words;have C4:=aT ((dx.of_ow (base:=base) ON.out).step X3d.out.d s4 aU)) | fail);rw[hpu] at c9;have f4:=X4.out.b.frozen 4;have f6:=X4.out.b.frozen 6;have f7:=X4.out.b.frozen 7;have f8:=X4.out.b.frozen 8;have f9:=X4.out.b.frozen 9;have f10:=X4.out.b.frozen 10;have gl:=X4.out.b.lt;go_wp2_with fail;go_ret;exact⟨An,e.n,cn,rfl,(((((X4.out.cellsTo C4.out).set 9 (.bool fr)).set 6 (I (E.tick+1))).set 4 (.slice An e.n cn)).set 7 (I (E.passed+1))).done rfl⟩
 | true=>
   rw[hpu] at c9;go_enter Tryz.func126,Tryz.ntmps126;go_upto_region 1 with fail;go_region_held3 (fun w'=>w'.cell? ⟨g,1,none⟩=some (.pointer (some ⟨e.gi,0,none⟩))/\w'.cell? ⟨g,6,none⟩=some (I E.tick)) (first | go_keep | (refine⟨?_,?_⟩ <;> assumption)) (first | ((go_at_call 210;go_call (hget) as e' w2 ⟨B2,k2,d2',rfl,o2,d2,s2⟩);have X2:=aT (HX1.out.stepD d2 s2);obtain⟨c0,c1,c2,c3,c4,c5,c6,c7,c8,c9,c10⟩:=(show cQ w2 base q g e m p hash pace E from ⟨X2.out.b,X2.out.gb,X2.out.r⟩).words) | fail);have X2d:=aT (X2.out.below (Below.drew (Below.refl _ _)));have I2d:=aT (o2.below (Below.drew (Below.refl _ _)) aV);have htk2:=htk w2.drew B2 k2 d2' X2d.out.r.mach X2d.out.r.ce I2d.out.rd.ri (aj I2d.out.cap.1 I2d.out.cap.2);go_upto_region 4 with fail;go_region_held3 (fun w'=>w'.cell? ⟨g,0,none⟩=some (.pointer (some ⟨e.gm,0,none⟩))/\w'.cell? ⟨g,4,none⟩=some (.slice e.A e.n e.c)) (first | go_keep | (refine⟨?_,?_⟩ <;> assumption)) (first | ((go_at_call 170;go_call (htk2) as e' w3 ⟨An,cn,Ao,co,rfl,on,oo,b3⟩);have X3:=aT (X2d.out.below b3);obtain⟨c0,c1,c2,c3,c4,c5,c6,c7,c8,c9,c10⟩:=(show cQ w3 base q g e m p hash pace E from ⟨X3.out.b,X3.out.gb,X3.out.r⟩).words) | fail);have X3d:=aT (X3.out.below (Below.drew (Below.refl _ _)));have ON:=aT (on.below (Below.drew (Below.refl _ _)) aV);have OO:=aT (oo.below (Below.drew (Below.refl _ _)) aV);have hput3:=hput w3.drew Ao e.y.n2 co X3d.out OO.out.rd.ri (aj OO.out.cap.1 OO.out.cap.2);go_upto_region 7 with fail;go_region_held3 (fun w'=>w'.cell? ⟨g,2,none⟩=some (.pointer (some ⟨e.go,0,none⟩))/\w'.cell? ⟨g,6,none⟩=some (I E.tick)) (first | go_keep | (refine⟨?_,?_⟩ <;> assumption)) (first | ((go_at_call 211;go_call (hput3) as e' w4 ⟨rfl,d4,j4,s4,q4⟩);have X4:=aT (X3d.out.stepS d4 s4 q4 j4);obtain⟨c0,c1,c2,c3,c4,c5,c6,c7,c8,c9,c10⟩:=(show cQ w4 base q g e m p hash pace { E with nOut:=no3 } from ⟨X4.out.b,X4.out.gb,X4.out.r⟩).words;have C4:=aT ((dx.of_ow (base:=base) ON.out).step X3d.out.d s4 aU)) | fail);rw[hpu] at c9;have f4:=X4.out.b.frozen 4;have f6:=X4.out.b.frozen 6;have f7:=X4.out.b.frozen 7;have f8:=X4.out.b.frozen 8;have f9:=X4.out.b.frozen 9;have f10:=X4.out.b.frozen 10;have gl:=X4.out.b.lt;go_wp2_with fail;go_ret;exact⟨An,e.n,cn,rfl,(((((X4.out.cellsTo C4.out).set 9 (.bool true)).set 6 (I (E.tick+1))).set 4 (.slice An e.n cn)).set 7 (I (E.passed+1))).done rfl⟩
theorem nZ (D:aY):(bI D).1.waits.length<=D.waits.length:=by
 unfold bI
 split
 · exact Nat.le_refl _
 · split
   · exact Nat.le_refl _
   · exact Nat.zero_le _
theorem n7 (D:aY):(bI D).1.many=D.many:=by
 unfold bI
 split
 · rfl
 · split <;> rfl
theorem jY (h:cQ w base q g e m p hash pace E)(hd:br w base q D)(hs:base<=w.heap.size) :
 Ca 127 #[.pointer (some ⟨g,0,none⟩)] w fun e' w'=>e'=.returned (I (cW D E).2.2)/\EngS w w' base q g e m p hash pace (cW D E).1 (cW D E).2.1:=by
 have X1:=EngX.of h hd (Step.refl mutE base q w) hs;obtain⟨c0,c1,c2,c3,c4,c5,c6,c7,c8,c9,c10⟩:=h.words;have hfl:=pH X1.r.out X1.d X1.hs X1.r.as_;have HX1:=aT X1;clear X1 h hd
 cases hpu:E.put with
 | false=>
   rw[hpu] at c9;have hun:cW D E=(D,E,0):=by unfold cW;rw[if_pos hpu]
   rw[hun];clear hun hpu;go_enter Tryz.func127,Tryz.ntmps127;go_wp2_with fail;go_ret;exact⟨rfl,HX1.out.done rfl⟩
 | true=>
   rw[hpu] at c9;have hun:cW D E=lu E (bI D):=by unfold cW;rw[if_neg (by rw[hpu];simp)]
   rw[hun];clear hun;generalize bI D=F at *;obtain⟨D1,z⟩:=F;simp only at hfl;unfold lu;simp only
   by_cases hz:z=0
   · subst hz;rw[show decide ((0:Int)≠0)=false from rfl];go_enter Tryz.func127,Tryz.ntmps127;go_upto_region 4 with (first | ((go_at_call 208;go_call (hfl) as e' w4 ⟨rfl,d4,s4⟩);have X4:=aT (HX1.out.stepD d4 s4);obtain⟨c0,c1,c2,c3,c4,c5,c6,c7,c8,c9,c10⟩:=(show cQ w4 base q g e m p hash pace E from ⟨X4.out.b,X4.out.gb,X4.out.r⟩).words) | fail);rw[hpu] at c9;have f4:=X4.out.b.frozen 4;have f6:=X4.out.b.frozen 6;have f7:=X4.out.b.frozen 7;have f8:=X4.out.b.frozen 8;have f9:=X4.out.b.frozen 9;have f10:=X4.out.b.frozen 10;have gl:=X4.out.b.lt;go_wp2_with fail;go_ret;exact⟨rfl,EngX.done (E:={ E with put:=false }) (X4.out.set 9 (.bool false)) rfl⟩
   · have hzb:(z != 0)=true:=by rw[af];exact hz
     have hzd:decide (z≠0)=true:=am hz;rw[hzd];clear hz hzd;go_enter Tryz.func127,Tryz.ntmps127;go_upto_region 4 with (first | ((go_at_call 208;go_call (hfl) as e' w4 ⟨rfl,d4,s4⟩);have X4:=aT (HX1.out.stepD d4 s4);obtain⟨c0,c1,c2,c3,c4,c5,c6,c7,c8,c9,c10⟩:=(show cQ w4 base q g e m p hash pace E from ⟨X4.out.b,X4.out.gb,X4.out.r⟩).words) | fail);rw[hpu] at c9;have f4:=X4.out.b.frozen 4;have f6:=X4.out.b.frozen 6;have f7:=X4.out.b.frozen 7;have f8:=X4.out.b.frozen 8;have f9:=X4.out.b.frozen 9;have f10:=X4.out.b.frozen 10;have gl:=X4.out.b.lt;go_wp2_with fail;go_ret;exact⟨rfl,EngX.done (E:={ E with put:=true }) (X4.out.set 9 (.bool true)) rfl⟩
theorem n8 (h:cQ w base q g e m p hash pace E)(ok:EgOk m p E)(G:PrgW p m)(hd:br w base q D)(hs:base<=w.heap.size)(big:11+2 * m<=D.many)(hwt:D.waits.length<800000) :
 Ca 125 #[.pointer (some ⟨g,0,none⟩)] w fun e' w'=>e'=.returned (I (dw p hash D E).2.2)/\EngS w w' base q g e m p hash pace (dw p hash D E).1 (dw p hash D E).2.1:=by
 have X1:=EngX.of h hd (Step.refl mutE base q w) hs;obtain⟨c0,c1,c2,c3,c4,c5,c6,c7,c8,c9,c10⟩:=h.words;have hfl:=pH X1.r.out X1.d X1.hs X1.r.as_;have hwf:=nZ D;have hmf:=n7 D;have HX1:=aT X1;have hen:e.n<=1000:=by have:=X1.r.ce.ri.1;have:=(ia.1 ok.cf).1;have:=G.c60;omega
 have kn:=ok.kn;have hmay:=G.may;have hun:dw p hash D E=iP p hash E (bI D):=rfl;rw[hun];clear X1 h hd hun ok G;generalize bI D=F at *;obtain⟨D1,z⟩:=F;simp only at hfl hwf hmf
 by_cases hz:z=0
 rotate_left 1
 · have hzb:(z != 0)=true:=by rw[af];exact hz
   have hun:iP p hash E (D1,z)=(D1,E,z):=by unfold iP;rw[if_pos hz]
   rw[hun];clear hun hz;go_enter Tryz.func125,Tryz.ntmps125;go_wp2_with (first | ((go_at_call 208;go_call (hfl) as e' w4 ⟨rfl,d4,s4⟩);have X4:=aT (HX1.out.stepD d4 s4)) | fail);go_ret;exact⟨rfl,X4.out.done rfl⟩
 subst hz;have hun:iP p hash E (D1,0)=iO { E with put:=false } (eM D1 1 5 6 5 p hash E.k E.tick E.cells):=by unfold iP;rw[if_neg bj]
 rw[hun];clear hun;have hksv:=fun (W:World) (cs:List Value) (X:EngX w W base q g cs e m p hash D1 E.nIn E.nOut E.k E.cells)=>ksave_any (tick:=E.tick) (c:=e.c) (fun _ _ h=>h) X.r.kp hmay X.d X.hs X.r.aa X.r.ab aS aS aS aS X.r.ce hen kn aS
 generalize eM D1 1 5 6 5 p hash E.k E.tick E.cells=K at *;obtain⟨D2,k2,z2⟩:=K;simp only at hksv
 by_cases hz2:z2=0
 · subst hz2;have hun:iO { E with put:=false } (D2,k2,0)=(D2,{ E with put:=false,k:=k2,passed:=0 },0):=by unfold iO;rw[if_neg bj]
   rw[hun];clear hun;go_enter Tryz.func125,Tryz.ntmps125;go_upto_region 4 with (first | ((go_at_call 208;go_call (hfl) as e' w4 ⟨rfl,d4,s4⟩);have X4:=aT (HX1.out.stepD d4 s4);obtain⟨c0,c1,c2,c3,c4,c5,c6,c7,c8,c9,c10⟩:=(show cQ w4 base q g e m p hash pace E from ⟨X4.out.b,X4.out.gb,X4.out.r⟩).words) | fail);have f4:=X4.out.b.frozen 4;have f6:=X4.out.b.frozen 6;have f7:=X4.out.b.frozen 7;have f8:=X4.out.b.frozen 8;have f9:=X4.out.b.frozen 9;have f10:=X4.out.b.frozen 10;have gl:=X4.out.b.lt;have X5:=aT ((X4.out.set 9 (.bool false)).below (Below.drew (Below.refl _ _)));have hk5:=hksv _ _ X5.out;obtain⟨v0,v1,v2,v3,v4,v5,v6,v7,v8,v9,v10⟩:=(show cQ (w4.setCell ⟨g,9,none⟩ (.bool false)).drew base q g e m p hash pace { E with put:=false } from ⟨X5.out.b,X5.out.gb,X5.out.r⟩).words;go_upto_region 5 with fail;go_region_held3 (fun w'=>w'.cell? ⟨g,3,none⟩=some (.pointer (some ⟨e.gk,0,none⟩))/\w'.cell? ⟨g,6,none⟩=some (I E.tick)/\w'.cell? ⟨g,4,none⟩=some (.slice e.A e.n e.c)) (first | go_keep | (refine⟨?_,?_,?_⟩ <;> assumption) | (refine⟨?_,?_,?_⟩ <;> go_simp)) (first | ((go_at_call 209;go_call (hk5) as e' w6 ⟨rfl,d6,j6,s6⟩);have X6:=aT (X5.out.stepK d6 s6 j6);obtain⟨c0,c1,c2,c3,c4,c5,c6,c7,c8,c9,c10⟩:=(show cQ w6 base q g e m p hash pace { E with put:=false,k:=k2 } from ⟨X6.out.b,X6.out.gb,X6.out.r⟩).words) | fail);have f7:=X6.out.b.frozen 7;have gl:=X6.out.b.lt;go_wp2_with fail;go_ret;exact⟨rfl,EngX.done (E:={ E with put:=false,k:=k2,passed:=0 }) (X6.out.set 7 (I 0)) rfl⟩
 · have hzb:(z2 != 0)=true:=by rw[af];exact hz2
   have hun:iO { E with put:=false } (D2,k2,z2)=(D2,{ E with put:=false,k:=k2 },z2):=by unfold iO;rw[if_pos hz2]
   rw[hun];clear hun hz2;go_enter Tryz.func125,Tryz.ntmps125;go_upto_region 4 with (first | ((go_at_call 208;go_call (hfl) as e' w4 ⟨rfl,d4,s4⟩);have X4:=aT (HX1.out.stepD d4 s4);obtain⟨c0,c1,c2,c3,c4,c5,c6,c7,c8,c9,c10⟩:=(show cQ w4 base q g e m p hash pace E from ⟨X4.out.b,X4.out.gb,X4.out.r⟩).words) | fail);have f4:=X4.out.b.frozen 4;have f6:=X4.out.b.frozen 6;have f7:=X4.out.b.frozen 7;have f8:=X4.out.b.frozen 8;have f9:=X4.out.b.frozen 9;have f10:=X4.out.b.frozen 10;have gl:=X4.out.b.lt;have X5:=aT ((X4.out.set 9 (.bool false)).below (Below.drew (Below.refl _ _)));have hk5:=hksv _ _ X5.out;obtain⟨v0,v1,v2,v3,v4,v5,v6,v7,v8,v9,v10⟩:=(show cQ (w4.setCell ⟨g,9,none⟩ (.bool false)).drew base q g e m p hash pace { E with put:=false } from ⟨X5.out.b,X5.out.gb,X5.out.r⟩).words;go_upto_region 5 with fail;go_region_held3 (fun w'=>w'.cell? ⟨g,3,none⟩=some (.pointer (some ⟨e.gk,0,none⟩))/\w'.cell? ⟨g,6,none⟩=some (I E.tick)/\w'.cell? ⟨g,4,none⟩=some (.slice e.A e.n e.c)) (first | go_keep | (refine⟨?_,?_,?_⟩ <;> assumption) | (refine⟨?_,?_,?_⟩ <;> go_simp)) (first | ((go_at_call 209;go_call (hk5) as e' w6 ⟨rfl,d6,j6,s6⟩);have X6:=aT (X5.out.stepK d6 s6 j6);obtain⟨c0,c1,c2,c3,c4,c5,c6,c7,c8,c9,c10⟩:=(show cQ w6 base q g e m p hash pace { E with put:=false,k:=k2 } from ⟨X6.out.b,X6.out.gb,X6.out.r⟩).words) | fail);go_wp2_with fail;go_ret;exact⟨rfl,EngX.done (E:={ E with put:=false,k:=k2 }) X6.out rfl⟩
end
