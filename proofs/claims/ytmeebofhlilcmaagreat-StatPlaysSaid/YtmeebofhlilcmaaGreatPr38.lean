/- Parts: EngB, PlainSok, PlainKok, EngP. -/
import Derived.Test.YtmeebofhlilcmaaGreatPr37
set_option linter.unusedVariables false
set_option linter.unusedSimpArgs false
set_option maxRecDepth 100000
set_option maxHeartbeats 0
namespace Go.Proofs.YtmeebofhlilcmaaGreat
variable {p:PV}
open Go.RowKit
theorem fGetV_row {D:aW}{f m next:Nat}{kind:Int}{ts:List Int}{n:Int}(h:(dy D f m kind next ts n).2.2=0):cI ts (dy D f m kind next ts n).2.1=true/\eE (dy D f m kind next ts n).2.1:=by
 unfold dy at h ⊢
 by_cases h1:(fq D f m kind next n).2.2≠0
 · rw[if_pos h1] at h;exact absurd h h1
 · rw[if_neg h1] at h ⊢
   by_cases h2:(eJ ts (fq D f m kind next n).2.1).2≠0
   · rw[if_pos h2] at h;simp at h
   · rw[if_neg h2];obtain⟨a,_,b⟩:=readR_back (ts:=ts) (b:=(fq D f m kind next n).2.1) aS;exact⟨a,b⟩
theorem intok_in {l:List Int}(h:eE l):∀ z ∈ l,In64 z:=fun z hz=>by
 obtain⟨i,hi,rfl⟩:=List.getElem_of_mem hz;have:=h i hi;unfold bj at this
 rwa [ag,ap hi] at this
theorem in_intok {l:List Int}(h:∀ z ∈ l,In64 z):eE l:=fun i hi=>by
 have:=h _ (List.getElem_mem hi);unfold bj;rw[ag,ap hi];exact this
section
variable {w w':World} {base g m:Nat} {q:bB} {D:aW} {e:EP} {p:PV} {hash pace:Int} {E:EgV}
theorem one_any (h:cF w base q g e m p hash pace E)(ok:EgOk m p E)(G:PrgW p m)(hd:bc w base q D)(hs:base<=w.heap.size)(big:11+2 * m<=D.many)(ht:E.tick<(E.nIn:Int))(hwt:D.waits.length<800000) :
 Ca 126 #[.pointer (some ⟨g,0,none⟩)] w fun e' w'=>∃ A n c,e'=.returned (I (bK m p D E).2.2)/\EngS w w' base q g { e with A:=A,n:=n,c:=c } m p hash pace (bK m p D E).1 (bK m p D E).2.1:=by
 have hm2:=G.m2;have hni:=ok.i0;have hno:=ok.o0;have t0:=ok.t0;have p0:=ok.p0;have p1:=ok.p1;have hb1:Below w.heap.size w w.drew:=Below.drew (Below.refl _ _);have X1:=(EngX.of h hd (Step.refl mutE base q w) hs).below hb1;obtain⟨c0,c1,c2,c3,c4,c5,c6,c7,c8,c9,c10⟩:=h.words;have hget:=fdget_any X1.r.inn X1.d X1.hs X1.r.al aS aS E.tick;have hrow:=@fGetV_row D 11 m E.nIn 3 p.ins E.tick;have hmany:=fGetV_many D 11 m 3 E.nIn p.ins E.tick;have hkeep:=lW D 11 m 3 E.nIn p.ins E.tick;have hone:bK m p D E=ix m p E (dy D 11 m 3 E.nIn p.ins E.tick):=rfl;rw[hone];clear hone hb1 h hd;have HX1:=aT X1;clear X1;generalize dy D 11 m 3 E.nIn p.ins E.tick=R at *;obtain⟨D1,l,z1⟩:=R;simp only at hget hrow hmany hkeep;have hw1:D1.waits.length<800000:=by obtain⟨o,e⟩:=hkeep;rw[e];exact hwt
 clear hkeep
 by_cases hz1:z1=0
 rotate_left 1
 · have hzb:(z1 != 0)=true:=by rw[ah];exact hz1
   have hun:ix m p E (D1,l,z1)=(D1,E,z1):=by unfold ix;rw[if_pos hz1]
   rw[hun];clear hun hz1 hrow;go_enter Tryz.func126,Tryz.ntmps126;go_upto_region 1 with fail;go_region_held3 (fun w'=>w'.cell? ⟨g,1,none⟩=some (.pointer (some ⟨e.gi,0,none⟩))/\w'.cell? ⟨g,6,none⟩=some (I E.tick)) (first | go_keep | (refine⟨?_,?_⟩ <;> assumption)) (first | ((go_at_call 210;go_call (hget) as e' w2 ⟨B,k,d,rfl,o2,d2,s2⟩);have X2:=aT (HX1.out.stepD d2 s2);obtain⟨c0,c1,c2,c3,c4,c5,c6,c7,c8,c9,c10⟩:=(show cF w2 base q g e m p hash pace E from ⟨X2.out.b,X2.out.gb,X2.out.r⟩).words) | fail);go_wp2_with fail;go_ret;exact⟨e.A,e.n,e.c,rfl,X2.out.done rfl⟩
 subst hz1;obtain⟨f1,f2⟩:=hrow rfl;have l64:=intok_in f2;have hfits:(gM p E.cells && cI p.ins l)=true:=by rw[ok.cf,f1];rfl
 obtain⟨_,_,_,g4,g5⟩:=mb G.hv G.hw ok.cf f1 ok.c64 l64;have hT:fw p E.cells l=((goV p E.cells l 0 (fj p E.cells)).next,(goV p E.cells l 0 (fj p E.cells)).out,(goV p E.cells l 0 (fj p E.cells)).steps,0):=by unfold fw;rw[if_pos hfits]
 have hun:ix m p E (D1,l,0)=gD E (fw p E.cells l) (eX D1 (11+m) m 4 E.nOut p.outs E.tick (fw p E.cells l).2.1):=by
  unfold ix;rw[if_neg aZ];unfold eOneB;simp only;rw[hT,if_neg aZ]
 rw[hun];have i5:=in_intok g5;have htk:=fun (W:World) (B:Option Addr) (k d:Nat) (h1:gN W base e.gm e.y p) (h2:di W base e.A e.n E.cells) (h3:RI W B k l) (hk:k<=maxLen)=>mtick_yes h1 G.hv G.hw e.A e.n e.c E.cells h2.ri (by have:=h2.ri.1;have:=(iV.1 ok.cf).1;have:=G.c60;omega) B k d l h3 hk ok.c64 l64 ok.cf f1
 rw[hT] at i5 ⊢;simp only at i5 ⊢;clear hT hun g4 g5 hfits hrow f1 f2 l64;generalize (goV p E.cells l 0 (fj p E.cells)).next=nx at *;generalize (goV p E.cells l 0 (fj p E.cells)).out=ou at *;generalize (goV p E.cells l 0 (fj p E.cells)).steps=sp at *;have hput:=fun (W:World) (B:Option Addr) (k d:Nat) (X:EngX w W base q g (engC e pace E) e m p hash D1 E.nIn E.nOut E.k E.cells) (hl:RI W B k ou) (hk:k<=maxLen)=>skputO_any X.r.out X.d X.hs X.r.as_ aS aS hno aS G.outs E.tick B k d hl hk i5
 generalize eX D1 (11+m) m 4 E.nOut p.outs E.tick ou=S at *;obtain⟨D3,no3,fr,z3⟩:=S;simp only at hput;clear i5 hwt hw1 ok G
 by_cases hz3:z3=0
 rotate_left 1
 · have hzb:(z3 != 0)=true:=by rw[ah];exact hz3
   have hun:gD E (nx,ou,sp,0) (D3,no3,fr,z3)=(D3,{ E with nOut:=no3 },z3):=by unfold gD;rw[if_pos hz3]
   rw[hun];clear hun hz3;go_enter Tryz.func126,Tryz.ntmps126;go_upto_region 1 with fail;go_region_held3 (fun w'=>w'.cell? ⟨g,1,none⟩=some (.pointer (some ⟨e.gi,0,none⟩))/\w'.cell? ⟨g,6,none⟩=some (I E.tick)) (first | go_keep | (refine⟨?_,?_⟩ <;> assumption)) (first | ((go_at_call 210;go_call (hget) as e' w2 ⟨B2,k2,d2',rfl,o2,d2,s2⟩);have X2:=aT (HX1.out.stepD d2 s2);obtain⟨c0,c1,c2,c3,c4,c5,c6,c7,c8,c9,c10⟩:=(show cF w2 base q g e m p hash pace E from ⟨X2.out.b,X2.out.gb,X2.out.r⟩).words) | fail);have X2d:=aT (X2.out.below (Below.drew (Below.refl _ _)));have I2d:=aT (o2.below (Below.drew (Below.refl _ _)) aX);have htk2:=htk w2.drew B2 k2 d2' X2d.out.r.mach X2d.out.r.ce I2d.out.rd.ri (ae I2d.out.cap.1 I2d.out.cap.2);go_upto_region 4 with fail;go_region_held3 (fun w'=>w'.cell? ⟨g,0,none⟩=some (.pointer (some ⟨e.gm,0,none⟩))/\w'.cell? ⟨g,4,none⟩=some (.slice e.A e.n e.c)) (first | go_keep | (refine⟨?_,?_⟩ <;> assumption)) (first | ((go_at_call 170;go_call (htk2) as e' w3 ⟨An,cn,Ao,co,rfl,on,oo,b3⟩);have X3:=aT (X2d.out.below b3);obtain⟨c0,c1,c2,c3,c4,c5,c6,c7,c8,c9,c10⟩:=(show cF w3 base q g e m p hash pace E from ⟨X3.out.b,X3.out.gb,X3.out.r⟩).words) | fail);have X3d:=aT (X3.out.below (Below.drew (Below.refl _ _)));have ON:=aT (on.below (Below.drew (Below.refl _ _)) aX);have OO:=aT (oo.below (Below.drew (Below.refl _ _)) aX);have hput3:=hput w3.drew Ao e.y.n2 co X3d.out OO.out.rd.ri (ae OO.out.cap.1 OO.out.cap.2);go_upto_region 7 with fail;go_region_held3 (fun w'=>w'.cell? ⟨g,2,none⟩=some (.pointer (some ⟨e.go,0,none⟩))/\w'.cell? ⟨g,6,none⟩=some (I E.tick)) (first | go_keep | (refine⟨?_,?_⟩ <;> assumption)) (first | ((go_at_call 211;go_call (hput3) as e' w4 ⟨rfl,d4,j4,s4,q4⟩);have X4:=aT (X3d.out.stepS d4 s4 q4 j4);obtain⟨c0,c1,c2,c3,c4,c5,c6,c7,c8,c9,c10⟩:=(show cF w4 base q g e m p hash pace { E with nOut:=no3 } from ⟨X4.out.b,X4.out.gb,X4.out.r⟩).words;have C4:=aT ((di.of_ow (base:=base) ON.out).step X3d.out.d s4 aU)) | fail);go_wp2_with fail;go_ret;exact⟨e.A,e.n,e.c,rfl,X4.out.done rfl⟩
 subst hz3;have hun:gD E (nx,ou,sp,0) (D3,no3,fr,0)=(D3,{ E with nOut:=no3,put:=E.put || fr,tick:=E.tick+1,cells:=nx,passed:=E.passed+1 },0):=by unfold gD;rw[if_neg aZ]
 rw[hun];clear hun
 cases hpu:E.put with
 | false=>
   rw[hpu] at c9;go_enter Tryz.func126,Tryz.ntmps126;go_upto_region 1 with fail;go_region_held3 (fun w'=>w'.cell? ⟨g,1,none⟩=some (.pointer (some ⟨e.gi,0,none⟩))/\w'.cell? ⟨g,6,none⟩=some (I E.tick)) (first | go_keep | (refine⟨?_,?_⟩ <;> assumption)) (first | ((go_at_call 210;go_call (hget) as e' w2 ⟨B2,k2,d2',rfl,o2,d2,s2⟩);have X2:=aT (HX1.out.stepD d2 s2);obtain⟨c0,c1,c2,c3,c4,c5,c6,c7,c8,c9,c10⟩:=(show cF w2 base q g e m p hash pace E from ⟨X2.out.b,X2.out.gb,X2.out.r⟩).words) | fail);have X2d:=aT (X2.out.below (Below.drew (Below.refl _ _)));have I2d:=aT (o2.below (Below.drew (Below.refl _ _)) aX);have htk2:=htk w2.drew B2 k2 d2' X2d.out.r.mach X2d.out.r.ce I2d.out.rd.ri (ae I2d.out.cap.1 I2d.out.cap.2);go_upto_region 4 with fail;go_region_held3 (fun w'=>w'.cell? ⟨g,0,none⟩=some (.pointer (some ⟨e.gm,0,none⟩))/\w'.cell? ⟨g,4,none⟩=some (.slice e.A e.n e.c)) (first | go_keep | (refine⟨?_,?_⟩ <;> assumption)) (first | ((go_at_call 170;go_call (htk2) as e' w3 ⟨An,cn,Ao,co,rfl,on,oo,b3⟩);have X3:=aT (X2d.out.below b3);obtain⟨c0,c1,c2,c3,c4,c5,c6,c7,c8,c9,c10⟩:=(show cF w3 base q g e m p hash pace E from ⟨X3.out.b,X3.out.gb,X3.out.r⟩).words) | fail);have X3d:=aT (X3.out.below (Below.drew (Below.refl _ _)));have ON:=aT (on.below (Below.drew (Below.refl _ _)) aX);have OO:=aT (oo.below (Below.drew (Below.refl _ _)) aX);have hput3:=hput w3.drew Ao e.y.n2 co X3d.out OO.out.rd.ri (ae OO.out.cap.1 OO.out.cap.2);go_upto_region 7 with fail;go_region_held3 (fun w'=>w'.cell? ⟨g,2,none⟩=some (.pointer (some ⟨e.go,0,none⟩))/\w'.cell? ⟨g,6,none⟩=some (I E.tick)) (first | go_keep | (refine⟨?_,?_⟩ <;> assumption)) (first | ((go_at_call 211;go_call (hput3) as e' w4 ⟨rfl,d4,j4,s4,q4⟩);have X4:=aT (X3d.out.stepS d4 s4 q4 j4);obtain⟨c0,c1,c2,c3,c4,c5,c6,c7,c8,c9,c10⟩:=(show cF w4 base q g e m p hash pace { E with nOut:=no3 } from ⟨X4.out.b,X4.out.gb,X4.out.r⟩).words;have C4:=aT ((di.of_ow (base:=base) ON.out).step X3d.out.d s4 aU)) | fail);rw[hpu] at c9;have f4:=X4.out.b.frozen 4;have f6:=X4.out.b.frozen 6;have f7:=X4.out.b.frozen 7;have f8:=X4.out.b.frozen 8;have f9:=X4.out.b.frozen 9;have f10:=X4.out.b.frozen 10;have gl:=X4.out.b.lt;go_wp2_with fail;go_ret;exact⟨An,e.n,cn,rfl,(((((X4.out.cellsTo C4.out).set 9 (.bool fr)).set 6 (I (E.tick+1))).set 4 (.slice An e.n cn)).set 7 (I (E.passed+1))).done rfl⟩
 | true=>
   rw[hpu] at c9;go_enter Tryz.func126,Tryz.ntmps126;go_upto_region 1 with fail;go_region_held3 (fun w'=>w'.cell? ⟨g,1,none⟩=some (.pointer (some ⟨e.gi,0,none⟩))/\w'.cell? ⟨g,6,none⟩=some (I E.tick)) (first | go_keep | (refine⟨?_,?_⟩ <;> assumption)) (first | ((go_at_call 210;go_call (hget) as e' w2 ⟨B2,k2,d2',rfl,o2,d2,s2⟩);have X2:=aT (HX1.out.stepD d2 s2);obtain⟨c0,c1,c2,c3,c4,c5,c6,c7,c8,c9,c10⟩:=(show cF w2 base q g e m p hash pace E from ⟨X2.out.b,X2.out.gb,X2.out.r⟩).words) | fail);have X2d:=aT (X2.out.below (Below.drew (Below.refl _ _)));have I2d:=aT (o2.below (Below.drew (Below.refl _ _)) aX);have htk2:=htk w2.drew B2 k2 d2' X2d.out.r.mach X2d.out.r.ce I2d.out.rd.ri (ae I2d.out.cap.1 I2d.out.cap.2);go_upto_region 4 with fail;go_region_held3 (fun w'=>w'.cell? ⟨g,0,none⟩=some (.pointer (some ⟨e.gm,0,none⟩))/\w'.cell? ⟨g,4,none⟩=some (.slice e.A e.n e.c)) (first | go_keep | (refine⟨?_,?_⟩ <;> assumption)) (first | ((go_at_call 170;go_call (htk2) as e' w3 ⟨An,cn,Ao,co,rfl,on,oo,b3⟩);have X3:=aT (X2d.out.below b3);obtain⟨c0,c1,c2,c3,c4,c5,c6,c7,c8,c9,c10⟩:=(show cF w3 base q g e m p hash pace E from ⟨X3.out.b,X3.out.gb,X3.out.r⟩).words) | fail);have X3d:=aT (X3.out.below (Below.drew (Below.refl _ _)));have ON:=aT (on.below (Below.drew (Below.refl _ _)) aX);have OO:=aT (oo.below (Below.drew (Below.refl _ _)) aX);have hput3:=hput w3.drew Ao e.y.n2 co X3d.out OO.out.rd.ri (ae OO.out.cap.1 OO.out.cap.2);go_upto_region 7 with fail;go_region_held3 (fun w'=>w'.cell? ⟨g,2,none⟩=some (.pointer (some ⟨e.go,0,none⟩))/\w'.cell? ⟨g,6,none⟩=some (I E.tick)) (first | go_keep | (refine⟨?_,?_⟩ <;> assumption)) (first | ((go_at_call 211;go_call (hput3) as e' w4 ⟨rfl,d4,j4,s4,q4⟩);have X4:=aT (X3d.out.stepS d4 s4 q4 j4);obtain⟨c0,c1,c2,c3,c4,c5,c6,c7,c8,c9,c10⟩:=(show cF w4 base q g e m p hash pace { E with nOut:=no3 } from ⟨X4.out.b,X4.out.gb,X4.out.r⟩).words;have C4:=aT ((di.of_ow (base:=base) ON.out).step X3d.out.d s4 aU)) | fail);rw[hpu] at c9;have f4:=X4.out.b.frozen 4;have f6:=X4.out.b.frozen 6;have f7:=X4.out.b.frozen 7;have f8:=X4.out.b.frozen 8;have f9:=X4.out.b.frozen 9;have f10:=X4.out.b.frozen 10;have gl:=X4.out.b.lt;go_wp2_with fail;go_ret;exact⟨An,e.n,cn,rfl,(((((X4.out.cellsTo C4.out).set 9 (.bool true)).set 6 (I (E.tick+1))).set 4 (.slice An e.n cn)).set 7 (I (E.passed+1))).done rfl⟩
theorem nY (D:aW):(bG D).1.waits.length<=D.waits.length:=by
 unfold bG
 split
 · exact Nat.le_refl _
 · split
   · exact Nat.le_refl _
   · exact Nat.zero_le _
theorem nZ (D:aW):(bG D).1.many=D.many:=by
 unfold bG
 split
 · rfl
 · split <;> rfl
theorem jS (h:cF w base q g e m p hash pace E)(hd:bc w base q D)(hs:base<=w.heap.size) :
 Ca 127 #[.pointer (some ⟨g,0,none⟩)] w fun e' w'=>e'=.returned (I (cR D E).2.2)/\EngS w w' base q g e m p hash pace (cR D E).1 (cR D E).2.1:=by
 have X1:=EngX.of h hd (Step.refl mutE base q w) hs;obtain⟨c0,c1,c2,c3,c4,c5,c6,c7,c8,c9,c10⟩:=h.words;have hfl:=pJ X1.r.out X1.d X1.hs X1.r.as_;have HX1:=aT X1;clear X1 h hd
 cases hpu:E.put with
 | false=>
   rw[hpu] at c9;have hun:cR D E=(D,E,0):=by unfold cR;rw[if_pos hpu]
   rw[hun];clear hun hpu;go_enter Tryz.func127,Tryz.ntmps127;go_wp2_with fail;go_ret;exact⟨rfl,HX1.out.done rfl⟩
 | true=>
   rw[hpu] at c9;have hun:cR D E=kZ E (bG D):=by unfold cR;rw[if_neg (by rw[hpu];simp)]
   rw[hun];clear hun;generalize bG D=F at *;obtain⟨D1,z⟩:=F;simp only at hfl;unfold kZ;simp only
   by_cases hz:z=0
   · subst hz;rw[show decide ((0:Int)≠0)=false from rfl];go_enter Tryz.func127,Tryz.ntmps127;go_upto_region 4 with (first | ((go_at_call 208;go_call (hfl) as e' w4 ⟨rfl,d4,s4⟩);have X4:=aT (HX1.out.stepD d4 s4);obtain⟨c0,c1,c2,c3,c4,c5,c6,c7,c8,c9,c10⟩:=(show cF w4 base q g e m p hash pace E from ⟨X4.out.b,X4.out.gb,X4.out.r⟩).words) | fail);rw[hpu] at c9;have f4:=X4.out.b.frozen 4;have f6:=X4.out.b.frozen 6;have f7:=X4.out.b.frozen 7;have f8:=X4.out.b.frozen 8;have f9:=X4.out.b.frozen 9;have f10:=X4.out.b.frozen 10;have gl:=X4.out.b.lt;go_wp2_with fail;go_ret;exact⟨rfl,EngX.done (E:={ E with put:=false }) (X4.out.set 9 (.bool false)) rfl⟩
   · have hzb:(z != 0)=true:=by rw[ah];exact hz
     have hzd:decide (z≠0)=true:=am hz;rw[hzd];clear hz hzd;go_enter Tryz.func127,Tryz.ntmps127;go_upto_region 4 with (first | ((go_at_call 208;go_call (hfl) as e' w4 ⟨rfl,d4,s4⟩);have X4:=aT (HX1.out.stepD d4 s4);obtain⟨c0,c1,c2,c3,c4,c5,c6,c7,c8,c9,c10⟩:=(show cF w4 base q g e m p hash pace E from ⟨X4.out.b,X4.out.gb,X4.out.r⟩).words) | fail);rw[hpu] at c9;have f4:=X4.out.b.frozen 4;have f6:=X4.out.b.frozen 6;have f7:=X4.out.b.frozen 7;have f8:=X4.out.b.frozen 8;have f9:=X4.out.b.frozen 9;have f10:=X4.out.b.frozen 10;have gl:=X4.out.b.lt;go_wp2_with fail;go_ret;exact⟨rfl,EngX.done (E:={ E with put:=true }) (X4.out.set 9 (.bool true)) rfl⟩
theorem n7 (h:cF w base q g e m p hash pace E)(ok:EgOk m p E)(G:PrgW p m)(hd:bc w base q D)(hs:base<=w.heap.size)(big:11+2 * m<=D.many)(hwt:D.waits.length<800000) :
 Ca 125 #[.pointer (some ⟨g,0,none⟩)] w fun e' w'=>e'=.returned (I (dg p hash D E).2.2)/\EngS w w' base q g e m p hash pace (dg p hash D E).1 (dg p hash D E).2.1:=by
 have X1:=EngX.of h hd (Step.refl mutE base q w) hs;obtain⟨c0,c1,c2,c3,c4,c5,c6,c7,c8,c9,c10⟩:=h.words;have hfl:=pJ X1.r.out X1.d X1.hs X1.r.as_;have hwf:=nY D;have hmf:=nZ D;have HX1:=aT X1;have hen:e.n<=1000:=by have:=X1.r.ce.ri.1;have:=(iV.1 ok.cf).1;have:=G.c60;omega
 have kn:=ok.kn;have hmay:=G.may;have hun:dg p hash D E=iJ p hash E (bG D):=rfl;rw[hun];clear X1 h hd hun ok G;generalize bG D=F at *;obtain⟨D1,z⟩:=F;simp only at hfl hwf hmf
 by_cases hz:z=0
 rotate_left 1
 · have hzb:(z != 0)=true:=by rw[ah];exact hz
   have hun:iJ p hash E (D1,z)=(D1,E,z):=by unfold iJ;rw[if_pos hz]
   rw[hun];clear hun hz;go_enter Tryz.func125,Tryz.ntmps125;go_wp2_with (first | ((go_at_call 208;go_call (hfl) as e' w4 ⟨rfl,d4,s4⟩);have X4:=aT (HX1.out.stepD d4 s4)) | fail);go_ret;exact⟨rfl,X4.out.done rfl⟩
 subst hz;have hun:iJ p hash E (D1,0)=iI { E with put:=false } (eL D1 1 5 6 5 p hash E.k E.tick E.cells):=by unfold iJ;rw[if_neg aZ]
 rw[hun];clear hun;have hksv:=fun (W:World) (cs:List Value) (X:EngX w W base q g cs e m p hash D1 E.nIn E.nOut E.k E.cells)=>ksave_any (tick:=E.tick) (c:=e.c) (fun _ _ h=>h) X.r.kp hmay X.d X.hs X.r.aa X.r.ab aS aS aS aS X.r.ce hen kn aS
 generalize eL D1 1 5 6 5 p hash E.k E.tick E.cells=K at *;obtain⟨D2,k2,z2⟩:=K;simp only at hksv
 by_cases hz2:z2=0
 · subst hz2;have hun:iI { E with put:=false } (D2,k2,0)=(D2,{ E with put:=false,k:=k2,passed:=0 },0):=by unfold iI;rw[if_neg aZ]
   rw[hun];clear hun;go_enter Tryz.func125,Tryz.ntmps125;go_upto_region 4 with (first | ((go_at_call 208;go_call (hfl) as e' w4 ⟨rfl,d4,s4⟩);have X4:=aT (HX1.out.stepD d4 s4);obtain⟨c0,c1,c2,c3,c4,c5,c6,c7,c8,c9,c10⟩:=(show cF w4 base q g e m p hash pace E from ⟨X4.out.b,X4.out.gb,X4.out.r⟩).words) | fail);have f4:=X4.out.b.frozen 4;have f6:=X4.out.b.frozen 6;have f7:=X4.out.b.frozen 7;have f8:=X4.out.b.frozen 8;have f9:=X4.out.b.frozen 9;have f10:=X4.out.b.frozen 10;have gl:=X4.out.b.lt;have X5:=aT ((X4.out.set 9 (.bool false)).below (Below.drew (Below.refl _ _)));have hk5:=hksv _ _ X5.out;obtain⟨v0,v1,v2,v3,v4,v5,v6,v7,v8,v9,v10⟩:=(show cF (w4.setCell ⟨g,9,none⟩ (.bool false)).drew base q g e m p hash pace { E with put:=false } from ⟨X5.out.b,X5.out.gb,X5.out.r⟩).words;go_upto_region 5 with fail;go_region_held3 (fun w'=>w'.cell? ⟨g,3,none⟩=some (.pointer (some ⟨e.gk,0,none⟩))/\w'.cell? ⟨g,6,none⟩=some (I E.tick)/\w'.cell? ⟨g,4,none⟩=some (.slice e.A e.n e.c)) (first | go_keep | (refine⟨?_,?_,?_⟩ <;> assumption) | (refine⟨?_,?_,?_⟩ <;> go_simp)) (first | ((go_at_call 209;go_call (hk5) as e' w6 ⟨rfl,d6,j6,s6⟩);have X6:=aT (X5.out.stepK d6 s6 j6);obtain⟨c0,c1,c2,c3,c4,c5,c6,c7,c8,c9,c10⟩:=(show cF w6 base q g e m p hash pace { E with put:=false,k:=k2 } from ⟨X6.out.b,X6.out.gb,X6.out.r⟩).words) | fail);have f7:=X6.out.b.frozen 7;have gl:=X6.out.b.lt;go_wp2_with fail;go_ret;exact⟨rfl,EngX.done (E:={ E with put:=false,k:=k2,passed:=0 }) (X6.out.set 7 (I 0)) rfl⟩
 · have hzb:(z2 != 0)=true:=by rw[ah];exact hz2
   have hun:iI { E with put:=false } (D2,k2,z2)=(D2,{ E with put:=false,k:=k2 },z2):=by unfold iI;rw[if_pos hz2]
   rw[hun];clear hun hz2;go_enter Tryz.func125,Tryz.ntmps125;go_upto_region 4 with (first | ((go_at_call 208;go_call (hfl) as e' w4 ⟨rfl,d4,s4⟩);have X4:=aT (HX1.out.stepD d4 s4);obtain⟨c0,c1,c2,c3,c4,c5,c6,c7,c8,c9,c10⟩:=(show cF w4 base q g e m p hash pace E from ⟨X4.out.b,X4.out.gb,X4.out.r⟩).words) | fail);have f4:=X4.out.b.frozen 4;have f6:=X4.out.b.frozen 6;have f7:=X4.out.b.frozen 7;have f8:=X4.out.b.frozen 8;have f9:=X4.out.b.frozen 9;have f10:=X4.out.b.frozen 10;have gl:=X4.out.b.lt;have X5:=aT ((X4.out.set 9 (.bool false)).below (Below.drew (Below.refl _ _)));have hk5:=hksv _ _ X5.out;obtain⟨v0,v1,v2,v3,v4,v5,v6,v7,v8,v9,v10⟩:=(show cF (w4.setCell ⟨g,9,none⟩ (.bool false)).drew base q g e m p hash pace { E with put:=false } from ⟨X5.out.b,X5.out.gb,X5.out.r⟩).words;go_upto_region 5 with fail;go_region_held3 (fun w'=>w'.cell? ⟨g,3,none⟩=some (.pointer (some ⟨e.gk,0,none⟩))/\w'.cell? ⟨g,6,none⟩=some (I E.tick)/\w'.cell? ⟨g,4,none⟩=some (.slice e.A e.n e.c)) (first | go_keep | (refine⟨?_,?_,?_⟩ <;> assumption) | (refine⟨?_,?_,?_⟩ <;> go_simp)) (first | ((go_at_call 209;go_call (hk5) as e' w6 ⟨rfl,d6,j6,s6⟩);have X6:=aT (X5.out.stepK d6 s6 j6);obtain⟨c0,c1,c2,c3,c4,c5,c6,c7,c8,c9,c10⟩:=(show cF w6 base q g e m p hash pace { E with put:=false,k:=k2 } from ⟨X6.out.b,X6.out.gb,X6.out.r⟩).words) | fail);go_wp2_with fail;go_ret;exact⟨rfl,EngX.done (E:={ E with put:=false,k:=k2 }) X6.out rfl⟩
end
theorem pM (D:aW)(f m:Nat):-9223372036854775808<=(cd D f m).2.2.1/\(cd D f m).2.2.1<=9223372036854775807:=by
 have h:-9223372036854775808<=(cL D f m 0 2).1/\(cL D f m 0 2).1<=9223372036854775807:=by
  unfold cL
  split
  · exact⟨by simp,by simp⟩
  · unfold eh
    split
    · exact sg_bd (pl _)
    · exact⟨by simp,by simp⟩
 unfold cd
 split
 · exact⟨by simp,by simp⟩
 split
 · exact⟨by simp,by simp⟩
 split
 · exact⟨by simp,by simp⟩
 split
 · exact h
 · exact⟨by simp,by simp⟩
def SOk (s:SlV3):Prop:=(-9223372036854775808<=s.number/\s.number<=9223372036854775807)/\(s.now=2->s.number=0/\s.load=[])
theorem openSV_ok (D:aW)(fl ml fr mr:Nat):SOk (dc D fl ml fr mr).2.1/\(dc D fl ml fr mr).1.many=D.many/\(dc D fl ml fr mr).1.waits=D.waits:=by
 obtain⟨a1,a2⟩:=mm D fl ml;obtain⟨b1,b2⟩:=mm (cd D fl ml).1 fr mr;have n1:=pM D fl ml;have n2:=pM (cd D fl ml).1 fr mr;unfold dc
 split
 · exact⟨⟨⟨by simp,by simp⟩,fun _=>⟨rfl,rfl⟩⟩,a1,a2⟩
 split
 · exact⟨⟨⟨by simp,by simp⟩,fun _=>⟨rfl,rfl⟩⟩,b1.trans a1,b2.trans a2⟩
 split
 · exact⟨⟨n1,fun e=>absurd e aZ⟩,b1.trans a1,b2.trans a2⟩
 split
 · exact⟨⟨n2,fun e=>absurd e aZ⟩,b1.trans a1,b2.trans a2⟩
 · exact⟨⟨⟨by simp,by simp⟩,fun _=>⟨rfl,rfl⟩⟩,b1.trans a1,b2.trans a2⟩
theorem saveA_few (D:aW)(f m:Nat)(number:Int)(load:List UInt8)(hl:load.length<=512):(ea D f m number load).1.many=D.many/\(ea D f m number load).1.waits.length<=D.waits.length+6:=by
 obtain⟨a1,a2⟩:=iU D f m 0 br;obtain⟨b1,b2⟩:=mj (bJ D f m 0 br).1;obtain⟨f1,f2⟩:=fillV_few (bG (bJ D f m 0 br).1).1 f m load;obtain⟨p1,p2⟩:=pK (dW (bG (bJ D f m 0 br).1).1 f m load).1 f m 0 2 number (dL load);obtain⟨g1,g2⟩:=mj (cx (dW (bG (bJ D f m 0 br).1).1 f m load).1 f m 0 2 number (dL load)).1;have hk4:cj load.length<=4:=by unfold cj;omega
 unfold ea
 split
 · exact⟨a1,aS⟩
 split
 · exact⟨b1.trans a1,aS⟩
 split
 · exact⟨(f1.trans b1).trans a1,aS⟩
 split
 · exact⟨((p1.trans f1).trans b1).trans a1,aS⟩
 · exact⟨(((g1.trans p1).trans f1).trans b1).trans a1,aS⟩
def KpOk (k:KpV):Prop:=SOk k.s/\(k.has=false->k.last=fg)/\k.last.cells.length<=100
theorem KpOk.none_:KpOk gL:=⟨⟨⟨by decide,by decide⟩,fun _=>⟨rfl,rfl⟩⟩,fun _=>rfl,by decide⟩
theorem pN {b:List UInt8}(h:(fF p b).2=0):eU p (fF p b).1=true:=by
 unfold fF at h ⊢
 split at h
 · exact absurd h aU
 · rename_i h0;rw[if_neg h0]
   split at h
   · exact absurd h aU
   · rename_i h1;rw[if_neg h1]
     split at h
     · exact absurd h aU
     · rename_i h2;rw[if_neg h2]
       split at h
       · rename_i h3;rw[if_pos h3];exact h3
       · exact absurd h aU
theorem pO {s:SV}(h:eU p s=true):s.cells.length<=100:=by
 obtain⟨m1,_,_,m4,_⟩:=jj.1 h;have:=(ey.1 m1).2.2.2.2.1;omega
theorem n8 (D:aW)(fl ml fr mr:Nat)(p:PV)(hash:Int):KpOk (dE D fl ml fr mr p hash).2.1/\(dE D fl ml fr mr p hash).1.many=D.many/\(dE D fl ml fr mr p hash).1.waits=D.waits:=by
 obtain⟨h1,h2,h3⟩:=openSV_ok D fl ml fr mr;unfold dE
 split
 · exact⟨KpOk.none_,rfl,rfl⟩
 · split
   · exact⟨KpOk.none_,h2,h3⟩
   · split
     · exact⟨⟨h1,fun _=>rfl,show fg.cells.length<=100 by decide⟩,h2,h3⟩
     · split
       · exact⟨KpOk.none_,h2,h3⟩
       · rename_i _ _ _ h4
         split
         · exact⟨KpOk.none_,h2,h3⟩
         · refine⟨⟨h1,fun e=>Bool.noConfusion e,pO (pN ?_)⟩,h2,h3⟩;exact Decidable.byContradiction h4
theorem kOpenV_fits (D:aW)(fl ml fr mr:Nat)(p:PV)(hash:Int)(h:(dE D fl ml fr mr p hash).2.1.has=true):eU p (dE D fl ml fr mr p hash).2.1.last=true/\∃ b,(dE D fl ml fr mr p hash).2.1.last=(fF p b).1/\(fF p b).2=0:=by
 unfold dE at h ⊢
 split
 · rename_i q;rw[if_pos q] at h;cases h
 rename_i q1;rw[if_neg q1] at h
 split
 · rename_i q;rw[if_pos q] at h;cases h
 rename_i q2;rw[if_neg q2] at h
 split
 · rename_i q;rw[if_pos q] at h;cases h
 rename_i q3;rw[if_neg q3] at h
 split
 · rename_i q;rw[if_pos q] at h;cases h
 rename_i q4;rw[if_neg q4] at h
 split
 · rename_i q;rw[if_pos q] at h;cases h
 rename_i q5;have e:=Decidable.byContradiction q4;exact⟨pN e,_,rfl,e⟩
theorem numAt_in (bs:List UInt8)(i:Nat):In64 (fE bs i):=sg_bd (by
 have h:=lE ((bs.drop i).take 8);have h2:256 ^ ((bs.drop i).take 8).length<=256 ^ 8:=Nat.pow_le_pow_right aS lD;omega)
theorem cellsK_in (bs:List UInt8):∀ n,∀ z ∈ fV bs n,In64 z:=fun n z hz=>by
 unfold fV at hz;simp only[List.mem_map] at hz;obtain⟨i,_,rfl⟩:=hz;exact numAt_in _ _
theorem stRead_in {b:List UInt8}:∀ z ∈ (fF p b).1.cells,In64 z:=fun z hz=>by
 unfold fF at hz
 split at hz
 · cases hz
 split at hz
 · cases hz
 split at hz
 · cases hz
 split at hz
 · exact cellsK_in _ _ z hz
 · cases hz
theorem fits_cells {s:SV}(h:eU p s=true):gM p s.cells=true:=by
 obtain⟨_,_,_,h4,h5⟩:=jj.1 h;exact iV.2 ⟨h4,h5⟩
theorem sPutV_few (D:aW)(f m:Nat)(kind:Int)(next:Nat)(ts:List Int)(n:Int)(l:List Int)(hn:next<=m):(eX D f m kind next ts n l).1.many=D.many/\(eX D f m kind next ts n l).1.waits.length<=D.waits.length+1/\(eX D f m kind next ts n l).2.1<=m:=by
 obtain⟨a1,a2,a3⟩:=jAddV_few D f m kind next (rowB ts l ts.length) hn;unfold eX
 split
 · exact⟨rfl,by simp,hn⟩
 split
 · exact⟨rfl,by simp,hn⟩
 split
 · exact⟨rfl,by simp,hn⟩
 split
 · exact⟨a1,a2,a3⟩
 · exact⟨a1,a2,a3⟩
theorem fAddV_few (D:aW)(f m:Nat)(kind:Int)(next:Nat)(ts l:List Int)(hn:next<=m):(dY D f m kind next ts l).1.many=D.many/\(dY D f m kind next ts l).1.waits.length<=D.waits.length+1/\(dY D f m kind next ts l).2.1<=m/\next<=(dY D f m kind next ts l).2.1:=by
 obtain⟨a1,a2,a3⟩:=jAddV_few D f m kind next (rowB ts l ts.length) hn;have a4:next<=(cM D f m kind next (rowB ts l ts.length)).2.1:=by
  unfold cM
  split
  · exact Nat.le_refl _
  split
  · exact Nat.le_refl _
  split
  · exact Nat.le_refl _
  · exact Nat.le_succ _
 have h:(cy D f m kind next ts l).1.many=D.many/\(cy D f m kind next ts l).1.waits.length<=D.waits.length+1/\(cy D f m kind next ts l).2.1<=m/\next<=(cy D f m kind next ts l).2.1:=by
  unfold cy
  split
  · exact⟨rfl,by simp,hn,Nat.le_refl _⟩
  · exact⟨a1,a2,a3,a4⟩
 obtain⟨b1,b2,b3,b4⟩:=h;obtain⟨c1,c2⟩:=nV (cy D f m kind next ts l).1;unfold dY
 split
 · exact⟨b1,b2,b3,b4⟩
 split
 · exact⟨c1.trans b1,by simp only;omega,b3,b4⟩
 · exact⟨c1.trans b1,by simp only;omega,b3,b4⟩
section
variable {m:Nat} {p:PV} {D:aW} {E:EgV} {hash pace:Int}
structure OneOk (m:Nat)(p:PV)(D:aW)(E:EgV)(R:aW × EgV × Int):Prop where
 ok:EgOk m p R.2.1
 many:R.1.many=D.many
 waits:R.1.waits.length<=D.waits.length+1
 nin:R.2.1.nIn=E.nIn
 rep:R.2.1.replayed=E.replayed
 go:R.2.2=0->R.2.1.tick=E.tick+1
 st:R.2.2≠0->R.2.1.tick=E.tick
theorem lj (ok:EgOk m p E)(G:PrgW p m)(ht:E.tick<(E.nIn:Int)):OneOk m p D E (bK m p D E):=by
 have hrow:=@fGetV_row D 11 m E.nIn 3 p.ins E.tick;have hkeep:=lW D 11 m 3 E.nIn p.ins E.tick;unfold bK;generalize dy D 11 m 3 E.nIn p.ins E.tick=R at *;obtain⟨D1,l,z1⟩:=R;simp only at hrow hkeep;obtain⟨o,hD1⟩:=hkeep;subst hD1;unfold ix
 by_cases hz1:z1=0
 rotate_left 1
 · rw[if_pos hz1];exact⟨ok,rfl,Nat.le_succ _,rfl,rfl,fun q=>absurd q hz1,fun _=>rfl⟩
 subst hz1;rw[if_neg aZ];obtain⟨f1,f2⟩:=hrow rfl;obtain⟨g1,g2,_,g4,_⟩:=mb G.hv G.hw ok.cf f1 ok.c64 (intok_in f2);unfold eOneB;simp only;rw[if_neg (by rw[g1];simp)];generalize fw p E.cells l=T at *;obtain⟨s1,s2,s3⟩:=sPutV_few { D with ops:=o } (11+m) m 4 E.nOut p.outs E.tick T.2.1 ok.o0;generalize eX { D with ops:=o } (11+m) m 4 E.nOut p.outs E.tick T.2.1=S at *;unfold gD
 split
 · rename_i q;exact⟨⟨ok.i0,s3,ok.t0,ok.t1,ok.p0,ok.p1,ok.r0,ok.r1,ok.cf,ok.c64,ok.kl,ok.kn⟩,s1,s2,rfl,rfl,fun q'=>absurd q' q,fun _=>rfl⟩
 · have:=ok.t0;have:=ok.p0;have:=ok.p1;have:=ok.r1;refine⟨⟨ok.i0,s3,?_,?_,?_,?_,ok.r0,?_,g2,g4,ok.kl,ok.kn⟩,s1,s2,rfl,rfl,fun _=>rfl,fun q=>absurd rfl q⟩
   · show 0<=E.tick+1;omega
   · show E.tick+1<=(E.nIn:Int);omega
   · show 0<=E.passed+1;omega
   · show E.passed+1<=E.tick+1;omega
   · show E.replayed<=E.tick+1;omega
structure SameOk (m:Nat)(p:PV)(D:aW)(E:EgV)(more:Nat)(R:aW × EgV × Int):Prop where
 ok:EgOk m p R.2.1
 many:R.1.many=D.many
 waits:R.1.waits.length<=D.waits.length+more
 nin:R.2.1.nIn=E.nIn
 rep:R.2.1.replayed=E.replayed
 tick:R.2.1.tick=E.tick
 off:R.2.1.off=E.off
theorem n9 (ok:EgOk m p E):SameOk m p D E 0 (cR D E):=by
 unfold cR
 split
 · exact⟨ok,rfl,by simp,rfl,rfl,rfl,rfl⟩
 · exact⟨⟨ok.i0,ok.o0,ok.t0,ok.t1,ok.p0,ok.p1,ok.r0,ok.r1,ok.cf,ok.c64,ok.kl,ok.kn⟩,nZ D,nY D,rfl,rfl,rfl,rfl⟩
theorem kSaveV_ok2 (D:aW)(fl ml fr mr:Nat)(p:PV)(hash tick:Int)(k:KpV)(cells:List Int)(h:-9223372036854775808<=k.s.number/\k.s.number<=9223372036854775807)(hl:k.last.cells.length<=100) :
 (-9223372036854775808<=(eL D fl ml fr mr p hash k tick cells).2.1.s.number/\(eL D fl ml fr mr p hash k tick cells).2.1.s.number<=9223372036854775807)/\(eL D fl ml fr mr p hash k tick cells).2.1.last.cells.length<=100/\(eL D fl ml fr mr p hash k tick cells).1.many=D.many/\(eL D fl ml fr mr p hash k tick cells).1.waits.length<=D.waits.length+6:=by
 have hs:(-9223372036854775808<=(de D fl ml fr mr k.s (stBs ⟨tick,hash,cells⟩)).2.1.number/\(de D fl ml fr mr k.s (stBs ⟨tick,hash,cells⟩)).2.1.number<=9223372036854775807)/\(de D fl ml fr mr k.s (stBs ⟨tick,hash,cells⟩)).1.many=D.many/\(de D fl ml fr mr k.s (stBs ⟨tick,hash,cells⟩)).1.waits.length<=D.waits.length+6:=by
  unfold de;generalize (if k.s.now=0 then fr else fl)=f1;generalize (if k.s.now=0 then mr else ml)=m1;generalize (if k.s.now=0 then 1 else 0)=o1
  split
  · exact⟨h,rfl,by simp⟩
  rename_i q;obtain⟨b1,b2⟩:=saveA_few D f1 m1 (k.s.number+1) (stBs ⟨tick,hash,cells⟩) aS
  split
  · exact⟨h,b1,b2⟩
  · exact⟨⟨by simp only;omega,by simp only;omega⟩,b1,b2⟩
 obtain⟨h1,h2,h3⟩:=hs;unfold eL
 split
 · exact⟨h,hl,rfl,by simp⟩
 rename_i hf
 split
 · exact⟨h1,hl,h2,h3⟩
 · exact⟨h1,pO (p:=p) (by cases q:eU p ⟨tick,hash,cells⟩ with | true=>rfl | false=>exact absurd q hf),h2,h3⟩
theorem mo (ok:EgOk m p E):SameOk m p D E 6 (dg p hash D E):=by
 unfold dg iJ;have a1:=nZ D;have a2:=nY D;have:=ok.t0
 split
 · exact⟨ok,a1,by simp only;omega,rfl,rfl,rfl,rfl⟩
 obtain⟨b1,b2,b3,b4⟩:=kSaveV_ok2 (bG D).1 1 5 6 5 p hash E.tick E.k E.cells ok.kn ok.kl;generalize eL (bG D).1 1 5 6 5 p hash E.k E.tick E.cells=K at *;unfold iI
 split
 · exact⟨⟨ok.i0,ok.o0,ok.t0,ok.t1,ok.p0,ok.p1,ok.r0,ok.r1,ok.cf,ok.c64,b2,b1⟩,b3.trans a1,by simp only;omega,rfl,rfl,rfl,rfl⟩
 · exact⟨⟨ok.i0,ok.o0,ok.t0,ok.t1,Int.le_refl _,ok.t0,ok.r0,ok.r1,ok.cf,ok.c64,b2,b1⟩,b3.trans a1,by simp only;omega,rfl,rfl,rfl,rfl⟩
end
end Go.Proofs.YtmeebofhlilcmaaGreat
