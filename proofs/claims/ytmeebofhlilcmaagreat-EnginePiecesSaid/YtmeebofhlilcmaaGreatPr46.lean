/- Parts. -/
import Derived.Test.YtmeebofhlilcmaaGreatPr45
set_option linter.unusedVariables false
set_option linter.unusedSimpArgs false
set_option maxRecDepth 100000
set_option maxHeartbeats 0
namespace Go.Proofs.YtmeebofhlilcmaaGreat
variable {w:World} {D:aY} {many:Nat} {pace:Int}
open Go.RowKit
theorem wp_store_eqS {P:Program}{op:Oper}{a:Act}{K:Act->World->Prop}{Q:Exit->Act->World->Prop}(ty:TypeId)(x y:Operand)(ho:op.op=.store ty x y)
 (b o:Nat) (cells:Array Value) (hx:a.eval x=.pointer (some ⟨b,o,none⟩)) (hy:a.eval y=.agg cells)
 (ht:w.there b o cells.size) (hi:(P.info? ty).map (·.size)=some cells.size) (h1:cells.all (·.oneCell')=true)
 (h:∀ w',w'=w.setCells b o cells.toList->K (a.put op.dst undef) w'):op.wp P a w K Q:=wp_store_mid ty x y ho b o cells hx hy ht hi h1 (h _ rfl)
theorem Blk.setAllS {g:Nat}{t:TypeId}{cs xs:List Value}(h:Blk w g t cs)(hl:xs.length=cs.length):Blk (w.setCells g 0 xs) g t xs:=by
 have:=Blk.setCells xs 0 w cs h aS;rw[dW _ _ aS] at this;exact this
theorem below_setCellsS {B:Nat}{w0:World}{g:Nat}(h:Below B w0 w)(hg:B<=g):∀ (o:Nat) (xs:List Value),Below B w0 (w.setCells g o xs):=by
 intro o xs
 induction xs generalizing o w with
 | nil=>exact h
 | cons x xs ih=>exact ih (h.setCell (p:=⟨g,o,none⟩) hg x) (o+1)
section
variable {w w':World} {base g m:Nat} {q:bJ} {D:aY} {e:EP} {p:PV} {hash pace:Int} {E:EgV}
theorem estat_any (h:cQ w base q g e m p hash pace E)(hk100:E.k.last.cells.length<=100) :
 Ca 29 #[.pointer (some ⟨g,0,none⟩)] w fun e' w'=>e'=.returned (.agg #[I (E.nIn:Nat),I (E.nOut:Nat),I E.tick,I E.passed,I E.replayed,I (gM E.k).tick])/\Below w.heap.size w w':=by
 have H:=aT h;obtain⟨c0,c1,c2,c3,c4,c5,c6,c7,c8,c9,c10⟩:=h.words;have gl:=h.b.lt;have b1:Below w.heap.size w (w.alloc (.cells #[I 0,I 0,I 0,I 0,I 0,I 0] 54)):=be;have hla:=klast_any (h.r.below b1).kp hk100;clear h;generalize gM E.k=la at *;go_enter Tryz.func29,Tryz.ntmps29;go_upto_region 4 with (first | ((go_at_call 118;(with_reducible refine (hla).mono ?_);rintro e' w2 ⟨A2,n2,c2',rfl,o2,b2⟩)) | fail);have X2:=Blk.below (w':=w2) (Blk.top w rfl rfl) b2 bj;have bW:Below w.heap.size w (w2.alloc (.cells #[I la.tick,I la.hash,.slice A2 n2 c2'] 139)):=(b1.trans (b2.mono bj)).alloc (by have:=b2.size;simp at this;omega) _;have XW:=X2.alloc (.cells #[I la.tick,I la.hash,.slice A2 n2 c2'] 139);have S3:Blk (w2.alloc (.cells #[I la.tick,I la.hash,.slice A2 n2 c2'] 139)) w2.heap.size 139 [I la.tick,I la.hash,.slice A2 n2 c2']:=Blk.top _ rfl rfl;have HW:=aT (H.out.below bW);have BW:=aT bW;have hsn:w2.heap.size≠w.heap.size:=by have:=X2.lt;omega
 refine dH (fun W=>cQ W base q g e m p hash pace E/\Blk W w.heap.size 54 [I 0,I 0,I 0,I 0,I 0,I 0]/\Blk W w2.heap.size 139 [I la.tick,I la.hash,.slice A2 n2 c2']/\Below w.heap.size w W) ⟨HW.out,XW,S3,BW.out⟩ ?_;clear bW XW S3 HW BW X2 b2 o2 b1 hla c0 c1 c2 c3 c4 c5 c6 c7 c8 c9 c10 H;generalize w2.heap.size=gs at *;rintro W ⟨HW,XW,SW,BW⟩;obtain⟨c0,c1,c2,c3,c4,c5,c6,c7,c8,c9,c10⟩:=HW.words;have s0:=SW.c0;have hld:=lv (HW.r.below (Below.drew (Below.refl _ _))).inn;have hlo:=nX (HW.r.below (Below.drew (Below.refl _ _))).out;have x0:=XW.cell 0;have xl:=XW.lt;have qp:=XW.frozen 0;have qq:=XW.frozen 1;have qr:=XW.frozen 2;have qs:=XW.frozen 3;have qt:=XW.frozen 4;have qv:=XW.frozen 5;have gne:=HW.b.ne_ XW aU;go_upto_region 4 with fail;refine wp_region_held_drew (S:=fun w'=>Blk w' g 180 (engC e pace E)/\Blk w' gs 139 [I la.tick,I la.hash,.slice A2 n2 c2']) bQ ⟨HW.b.drew,SW.drew⟩ (fun hHeld=>?_);refine aW 0 ?_;refine aW 1 ?_;refine aW 2 ?_;refine aW 3 ?_ (hy:=Or.inl ⟨by rfl,by (intro w hSw;(try dsimp only at hSw);obtain⟨hX,hY⟩:=hSw;have z:=hX.c1;go_simp;rfl)⟩);refine aW 5 ?_;refine aW 6 ?_;refine aW 7 ?_;refine aW 8 ?_ (hy:=Or.inl ⟨by rfl,by (intro w hSw;(try dsimp only at hSw);obtain⟨hX,hY⟩:=hSw;have z:=hX.c2;go_simp;rfl)⟩);refine aW 10 ?_;refine aW 11 ?_;refine aW 12 ?_;refine aW 13 ?_ (hy:=Or.inl ⟨by rfl,by (intro w hSw;(try dsimp only at hSw);obtain⟨hX,hY⟩:=hSw;have z:=hX.c6;go_simp;rfl)⟩);refine aW 14 ?_;refine aW 15 ?_;refine aW 16 ?_;refine aW 17 ?_ (hy:=Or.inl ⟨by rfl,by (intro w hSw;(try dsimp only at hSw);obtain⟨hX,hY⟩:=hSw;have z:=hX.c7;go_simp;rfl)⟩);refine aW 18 ?_;refine aW 19 ?_;refine aW 20 ?_;refine aW 21 ?_ (hy:=Or.inl ⟨by rfl,by (intro w hSw;(try dsimp only at hSw);obtain⟨hX,hY⟩:=hSw;have z:=hX.c8;go_simp;rfl)⟩);refine aW 22 ?_;refine aW 23 ?_ (hy:=Or.inl ⟨by rfl,by (intro w hSw;(try dsimp only at hSw);obtain⟨hX,hY⟩:=hSw;have z:=hY.c0;go_simp;rfl)⟩);refine bS 4 (fun K hK=>?_);go_simp
 (go_at_call 119;(with_reducible refine (hld).mono ?_);rintro e' w3 ⟨rfl,rfl⟩)
 refine hK.out _ _ (⟨HW.b.drew,SW.drew⟩) (fun hHeld=>?_);clear hK K;refine bK ?_;refine bS 9 (fun K hK=>?_);go_simp
 (go_at_call 120;(with_reducible refine (hlo).mono ?_);rintro e' w4 ⟨rfl,rfl⟩)
 refine hK.out _ _ (⟨HW.b.drew,SW.drew⟩) (fun hHeld=>?_);clear hK K;refine bK ?_;refine aW 24 ?_;refine bS 25 (fun K hK=>?_);rw[if_pos (by rfl)];refine wp_store_eqS 54 (.tmp 2) (.tmp 47) rfl w.heap.size 0 ([I (E.nIn:Nat),I (E.nOut:Nat),I E.tick,I E.passed,I E.replayed,I la.tick]).toArray rfl rfl (XW.drew.there 0 6 bj) bQ (all_oneCell_toArray (by intro u hu;simp only[List.mem_cons,List.not_mem_nil,or_false] at hu;rcases hu with rfl | rfl | rfl | rfl | rfl | rfl <;> rfl)) ?_;intro S hS;have XS:Blk S w.heap.size 54 [I (E.nIn:Nat),I (E.nOut:Nat),I E.tick,I E.passed,I E.replayed,I la.tick]:=by rw[hS];exact Blk.setAllS XW.drew rfl
 have HS:Blk S g 180 (engC e pace E):=by rw[hS];exact Blk.setCellsFar gne _ _ _ HW.b.drew
 have SS:Blk S gs 139 [I la.tick,I la.hash,.slice A2 n2 c2']:=by rw[hS];exact Blk.setCellsFar hsn _ _ _ SW.drew
 have BS:Below w.heap.size w S:=by rw[hS];exact below_setCellsS (Below.drew BW) aV _ _
 clear hS;refine hK.out _ _ (⟨HS,SS⟩) (fun hHeld=>?_);clear hK K;refine bK ?_;refine wpAnyH_done bV ?_ _;go_wp2_with fail;have x0:=XS.c0;have x1:=XS.c1;have x2:=XS.c2;have x3:=XS.c3;have x4:=XS.c4;have x5:=XS.c5;refine bodyPost_ret (v:=.agg #[I (E.nIn:Nat),I (E.nOut:Nat),I E.tick,I E.passed,I E.replayed,I la.tick]) (by simp[results,Tryz.results29,go_sem ,x0,x1,x2,x3,x4,x5]) rfl ?_;exact⟨rfl,BS⟩
end
structure Env (p:PV)(m:Nat)(pace:Int)(many:Nat):Prop where
 g:Prg p (cw p) m pace
 w:PrgW p m
 h13:13<=many
 lg:logN (many:Nat)=(m:Nat)
 big:11+m+m<=many
 pc:pace<=1024
structure StOn (w:World)(base:Nat)(q:bJ)(g:Nat)(p:PV)(m c:Nat)(pace:Int)(many:Nat)(calm:Bool)(rows:List (List Int))(tick:Nat)(rep:Int):Prop where
 hs:base<=w.heap.size
 ex:∃ D E e,br w base q D/\cQ w base q g e m p (cw p:Nat) pace E/\EgOk m p E/\EgOn p (cw p) m c pace D E rows/\D.many=many/\(calm=true->D.cut=-1)/\E.tick=(tick:Int)/\E.replayed=rep
structure StOff (w:World)(base:Nat)(q:bJ)(g:Nat)(p:PV)(m c:Nat)(pace:Int)(many k:Nat)(all:List (List Int))(ran:Int):Prop where
 hs:base<=w.heap.size
 ex:∃ D E e,br w base q D/\cQ w base q g e m p (cw p:Nat) pace E/\EgOk m p E/\E.off=true/\D.off=true/\D.many=many/\D.waits.length<=100000/\May D (Good p (cw p) m c pace k all ran)/\k<=E.nIn/\E.nOut<=E.nIn
structure StMay (w:World)(base:Nat)(q:bJ)(p:PV)(m c:Nat)(pace:Int)(many k:Nat)(all:List (List Int))(ran:Int):Prop where
 hs:base<=w.heap.size
 ex:∃ D,br w base q D/\D.many=many/\May D (Good p (cw p) m c pace k all ran)
structure iG (w:World)(base:Nat)(q:bJ)(p:PV)(m c:Nat)(pace:Int)(many:Nat)(calm:Bool)(k:Nat)(all:List (List Int))(ran:Int):Prop where
 hs:base<=w.heap.size
 ex:∃ D N,br w base q D/\Rest D N/\D.many=many/\(calm=true->D.cut=-1)/\Good p (cw p) m c pace k all ran N
section
variable {M:List TypeId} {w w':World} {base g m c many k tick:Nat} {q:bJ} {p:PV} {pace rep ran:Int} {calm:Bool} {rows all:List (List Int)} {x:PA}
theorem StOn.may (h:StOn w base q g p m c pace many calm rows tick rep):StMay w base q p m c pace many rows.length rows tick:=by
 obtain⟨D,E,e,hd,hi,ok,on,hm,hc,ht,hr⟩:=h.ex;exact⟨h.hs,D,hd,hm,by rw[<- ht];exact on.may⟩
theorem StOn.below (h:StOn w base q g p m c pace many calm rows tick rep)(hb:Below w.heap.size w w'):StOn w' base q g p m c pace many calm rows tick rep:=by
 obtain⟨D,E,e,hd,hi,ok,on,hm,hc,ht,hr⟩:=h.ex;exact⟨aj h.hs hb.size,D,E,e,hd.below hb,hi.below hb,ok,on,hm,hc,ht,hr⟩
theorem iG.below (h:iG w base q p m c pace many calm k all ran)(hb:Below w.heap.size w w'):iG w' base q p m c pace many calm k all ran:=by
 obtain⟨D,N,hd,h2⟩:=h.ex;exact⟨aj h.hs hb.size,D,N,hd.below hb,h2⟩
def SubR (w':World)(base:Nat)(q:bJ)(g:Nat)(p:PV)(m c:Nat)(pace:Int)(many:Nat)(calm:Bool)(rows:List (List Int))(tick:Nat)(rep:Int)(l:List Int)(n z:Int):Prop :=
 (z=41/\n=0/\cx p.ins l=false/\StOn w' base q g p m c pace many calm rows tick rep) \/
 (z=52/\n=0/\cx p.ins l=true/\rows.length=m/\StOn w' base q g p m c pace many calm rows tick rep) \/
 (z=0/\n=(rows.length:Int)/\cx p.ins l=true/\rows.length<m/\StOn w' base q g p m c pace many calm (rows ++ [l]) tick rep) \/
 (z=50/\n=0/\cx p.ins l=true/\rows.length<m/\calm=false/\StOff w' base q g p m c pace many rows.length (rows ++ [l]) tick)
theorem mH (hc:calm=true->D.cut=-1)(h:D.cut≠-1):calm=false:=by
 cases calm with
 | false=>rfl
 | true=>exact absurd (hc rfl) h
theorem sub_okE {E:EgV}{l:List Int}(ok:EgOk m p E):EgOk m p (subE m p D E l).2.1/\(subE m p D E l).1.many=D.many/\(subE m p D E l).1.waits.length<=D.waits.length+1/\(subE m p D E l).2.1.nOut=E.nOut/\E.nIn<=(subE m p D E l).2.1.nIn/\(subE m p D E l).2.1.replayed=E.replayed:=by
 unfold subE
 split
 · exact⟨ok,rfl,by simp,rfl,Nat.le_refl _,rfl⟩
 obtain⟨a1,a2,a3,a4⟩:=fAddV_few D 11 m 3 E.nIn p.ins l ok.i0;unfold subB;have:=ok.t1;refine⟨EgOk.told (E:={ E with nIn:=(dZ D 11 m 3 E.nIn p.ins l).2.1 }) ⟨a3,ok.o0,ok.t0,?_,ok.p0,ok.p1,ok.r0,ok.r1,ok.cf,ok.c64,ok.kl,ok.kn⟩ _,a1,a2,rfl,a4,rfl⟩
 show E.tick<=((dZ D 11 m 3 E.nIn p.ins l).2.1:Int)
 omega
theorem t_submit (V:Env p m pace many)(h:StOn w base q g p m c pace many calm rows tick rep)(B:Option Addr)(n d:Nat)(l:List Int)(hl:RI w B n l)(hn:n<=maxLen)(hi:eZ l) :
 Ca 31 #[.pointer (some ⟨g,0,none⟩),.slice B n d] w fun e' w'=>Step mutE base q w w'/\∃ v z,e'=.returned (.tuple #[I v,I z])/\SubR w' base q g p m c pace many calm rows tick rep l v z:=by
 have hs:=h.hs;obtain⟨D,E,e,hd,hin,ok,on,hm,hc,ht,hr⟩:=h.ex;obtain⟨f1,f2,f3,f4,f5,f6,f7,f8,f9,f10,f11⟩:=on.facts;have hm2:=V.g.m2;refine (submit_any hin ok V.w hd hs f8 (by rw[f7];simp) B n d l hl hn hi).mono fun e' w' ⟨h1,h2⟩=>⟨h2.s,_,_,h1,?_⟩
 obtain⟨o1,o2,o3,o4,o5,o6⟩:=sub_okE (D:=D) (l:=l) ok;have hun:cx p.ins l=false->(subE m p D E l).2.2=(0,41):=fun q=>sub_unfit f1 q
 rcases on.sub V.g hi with ⟨x1,x2⟩ | ⟨x1,x2⟩ | ⟨x1,x2,x3,x4,x5,x6⟩ | ⟨x1,x2,x3,x4,x5⟩
 · left
   rw[x1] at h2;rw[x1];exact⟨rfl,rfl,x2,aj hs h2.s.size,D,E,e,h2.d,h2.i,ok,on,hm,hc,ht,hr⟩
 · right;left
   have hf:cx p.ins l=true:=by
    cases hb:cx p.ins l with
    | true=>rfl
    | false=>
      have:=hun hb;rw[x1] at this;simp at this
   rw[x1] at h2;rw[x1];exact⟨rfl,rfl,hf,x2,aj hs h2.s.size,D,E,e,h2.d,h2.i,ok,on,hm,hc,ht,hr⟩
 · right;right;left
   have:=x3.facts;have hlen:=this.2.2.2.2.1;rw[az,aJ] at hlen;rw[x1];exact⟨rfl,rfl,x2,aS,aj hs h2.s.size,_,_,e,h2.d,h2.i,o1,x3,x5.trans hm,fun q=>x6 (hc q),x4.trans ht,o6.trans hr⟩
 · right;right;right
   obtain⟨y1,y2,y3,y4⟩:=x4;rw[x1];exact⟨rfl,rfl,x2,x3,mH hc y2,aj hs h2.s.size,_,_,e,h2.d,h2.i,o1,x5,y1,y3.trans hm,by rw[f7] at o3;simp at o3;omega,by rw[<- ht];exact y4,aS,aS⟩
def RunR (w':World)(base:Nat)(q:bJ)(g:Nat)(p:PV)(m c:Nat)(pace:Int)(many:Nat)(calm:Bool)(rows:List (List Int))(tick:Nat)(rep most:Int)(n z:Int):Prop :=
 (z=0/\n=min most ((rows.length:Int) - tick)/\StOn w' base q g p m (c+2000) pace many calm rows (tick+n.toNat) rep) \/
 (z=50/\0<=n/\n<=min most ((rows.length:Int) - tick)/\calm=false/\StOff w' base q g p m (c+2000) pace many rows.length rows (tick+n))
theorem StOn.le (h:StOn w base q g p m c pace many calm rows tick rep):tick<=rows.length/\rows.length<=m/\0<=rep/\rep<=tick/\eH p.ins rows:=by
 obtain⟨D,E,e,hd,hin,ok,on,hm,hc,ht,hr⟩:=h.ex;obtain⟨f1,f2,f3,f4,f5,f6,f7,f8,f9,f10,f11⟩:=on.facts;have:=ok.r0;have:=ok.r1;exact⟨aS,f5,aS,by omega,f9⟩
theorem t_run (V:Env p m pace many)(h:StOn w base q g p m c pace many calm rows tick rep)(most:Int)(hmo:0<=most)(hcb:c<7000000000000000000) :
 Ca 33 #[.pointer (some ⟨g,0,none⟩),I most] w fun e' w'=>Step mutE base q w w'/\∃ n z,e'=.returned (.tuple #[I n,I z])/\RunR w' base q g p m c pace many calm rows tick rep most n z:=by
 have hs:=h.hs;obtain⟨hle,_⟩:=h.le;obtain⟨D,E,e,hd,hin,ok,on,hm,hc,ht,hr⟩:=h.ex;obtain⟨f1,f2,f3,f4,f5,f6,f7,f8,f9,f10,f11⟩:=on.facts;have hm2:=V.g.m2;have hp:=runE_pub (D:=D) (hash:=(cw p:Nat)) (pace:=pace) V.w most ok;have hun:runE m p (cw p:Nat) pace most D E=runA (runK m p (cw p:Nat) pace most ((E.nIn:Int) - E.tick).toNat 0 D E):=by
  unfold runE;rw[if_neg (by rw[f1];simp),if_neg aS]
 have hc1:=run_on hin ok V.w hd hs f8 (by rw[f7];simp) most hmo f1;rw[<- hun] at hc1;refine hc1.mono fun e' w' ⟨A,n,cc,h1,h2⟩=>⟨h2.s,_,_,h1,?_⟩
 have hw:=hp.waits;rw[f7] at hw;simp at hw;rcases on.run V.g most hmo aS with ⟨x1,x2,x3,x4,x5,x6⟩ | ⟨x1,x2,x3,x4,x5⟩
 · left
   refine⟨x1,by rw[x4,ht],aj hs h2.s.size,_,_,_,h2.d,h2.i,hp.ok,x2.more aS,x5.trans hm,fun q=>x6 (hc q),?_,hp.rep.trans hr⟩;rw[x3,ht,x4];have h5:(0:Int)<=min most ((rows.length:Int) - E.tick):=aS
   push_cast
   rw[Int.toNat_of_nonneg h5]
 · right
   obtain⟨y1,y2,y3,y4⟩:=x4;rw[ht] at x3 y4;exact⟨x1,x2,x3,mH hc y2,aj hs h2.s.size,_,_,_,h2.d,h2.i,hp.ok,x5,y1,y3.trans hm,aS,y4.mono fun N g=>g.mono aS,by rw[hp.nin];omega,by rw[hp.nin];exact hp.io aS⟩
def SaveR (w':World)(base:Nat)(q:bJ)(g:Nat)(p:PV)(m c:Nat)(pace:Int)(many:Nat)(calm:Bool)(rows:List (List Int))(tick:Nat)(rep:Int)(z:Int):Prop :=
 (z=0/\StOn w' base q g p m (c+2000) pace many calm rows tick rep) \/
 (z=50/\calm=false/\StOff w' base q g p m (c+2000) pace many rows.length rows tick)
theorem t_save (V:Env p m pace many)(h:StOn w base q g p m c pace many calm rows tick rep)(hcb:c<7000000000000000000) :
 Ca 32 #[.pointer (some ⟨g,0,none⟩)] w fun e' w'=>Step mutE base q w w'/\∃ z,e'=.returned (I z)/\SaveR w' base q g p m c pace many calm rows tick rep z:=by
 have hs:=h.hs;obtain⟨D,E,e,hd,hin,ok,on,hm,hc,ht,hr⟩:=h.ex;obtain⟨f1,f2,f3,f4,f5,f6,f7,f8,f9,f10,f11⟩:=on.facts;have hp:=saveE_pub (D:=D) (hash:=(cw p:Nat)) ok;refine (saveE_any hin ok V.w hd hs f8 (by rw[f7];simp)).mono fun e' w' ⟨h1,h2⟩=>⟨h2.s,_,h1,?_⟩
 have hw:=hp.waits;rw[f7] at hw;simp at hw;rcases on.save V.g aS with ⟨x1,x2,x3,x5,x6⟩ | ⟨x1,x4,x5⟩
 · left
   exact⟨x1,aj hs h2.s.size,_,_,_,h2.d,h2.i,hp.ok,x2.more aS,x5.trans hm,fun q=>x6 (hc q),x3.trans ht,hp.rep.trans hr⟩
 · right
   obtain⟨y1,y2,y3,y4⟩:=x4;rw[ht] at y4;exact⟨x1,mH hc y2,aj hs h2.s.size,_,_,_,h2.d,h2.i,hp.ok,x5,y1,y3.trans hm,aS,y4.mono fun N g=>g.mono aS,by rw[hp.nin];omega,by rw[hp.nin];exact hp.io aS⟩
theorem t_output (V:Env p m pace many)(h:StOn w base q g p m c pace many calm rows tick rep)(t:Nat)(ht0:t<tick) :
 Ca 98 #[.pointer (some ⟨g,0,none⟩),I (t:Nat)] w fun e' w'=>∃ B k d,e'=.returned (.tuple #[.slice B k d,I 0])/\Ow iv w' w.heap.size 3 B k d (dM p rows t)/\StOn w' base q g p m c pace many calm rows tick rep/\Step mutE base q w w':=by
 have hs:=h.hs;obtain⟨D,E,e,hd,hin,ok,on,hm,hc,ht,hr⟩:=h.ex;obtain⟨f1,f2,f3,f4,f5,f6,f7,f8,f9,f10,f11⟩:=on.facts;have hg:=on.output V.g (t:=t) aS;have h1:=output_any hin ok V.w hd hs f8 (t:Int);rw[hg] at h1;refine h1.mono fun e' w' ⟨B,k,d,h1,h2,h3⟩=>⟨B,k,d,h1,h2,⟨aj hs h3.s.size,_,E,e,h3.d,h3.i,ok,on.ops _,hm,hc,ht,hr⟩,h3.s⟩
theorem EgOn.saved {E:EgV}{H:Nat}(h:EgOn p H m c pace D E rows):0<=(gM E.k).tick/\(gM E.k).tick<=E.tick:=by
 obtain⟨N,kS,s,n,last,is,h⟩:=h;have q:=h.mid;have h0:=q.t0;have hks:=q.ksle;have hat:=h.at_;rw[q.ek];unfold gM kOf;rcases aH n with z | z
 · subst z;simp[gE];exact h0
 · obtain⟨_,k1,k2⟩:=q.kc z;have hne:¬ n=0:=aS;simp only[hne,z,decide_true,if_true,if_false]
   first
    | exact⟨k1,aS⟩
    | (simp[hne];exact⟨k1,aS⟩)
theorem t_stat (h:StOn w base q g p m c pace many calm rows tick rep) :
 Ca 29 #[.pointer (some ⟨g,0,none⟩)] w fun e' w'=>∃ pa sv,e'=.returned (.agg #[I (rows.length:Nat),I (tick:Nat),I (tick:Nat),I pa,I rep,I sv])/\0<=pa/\pa<pace/\pa<=tick/\0<=sv/\sv<=tick/\Below w.heap.size w w':=by
 obtain⟨D,E,e,hd,hin,ok,on,hm,hc,ht,hr⟩:=h.ex;obtain⟨f1,f2,f3,f4,f5,f6,f7,f8,f9,f10,f11⟩:=on.facts;obtain⟨s1,s2⟩:=on.saved;have hp1:=ok.p1;refine (estat_any hin ok.kl).mono fun e' w' ⟨h1,h2⟩=>⟨E.passed,(gM E.k).tick,?_,f11,f10,aS,s1,aS,h2⟩
 rw[h1,f2,hr,<- ht,<- f3]
theorem t_crash (h:StMay w base q p m c pace many k all ran)(B:Option Addr)(n d:Nat)(cs:List UInt8)(hl:RB w B n cs)(hB:0<n->∀ g,B.map (·.block)=some g->g<base)(hn:n<=maxLen) :
 Ca 43 #[.pointer (some ⟨q.d,0,none⟩),.slice B n d] w fun e' w'=>e'=.returned (.tuple #[])/\iG w' base q p m c pace many true k all ran/\Step mutE base q w w':=by
 have hs:=h.hs;obtain⟨D,hd,hm,hmay⟩:=h.ex;obtain⟨N,r1,r2,r3,r4⟩:=hmay.crash cs;exact (s_crash hd hs B n d cs hl hB hn).mono fun e' w' ⟨h1,h2,h3⟩=>⟨h1,⟨aj hs h3.size,_,N,h2,r1,r4.trans hm,fun _=>r3,r2⟩,h3.dToE⟩
def OpenR (w':World)(base:Nat)(q:bJ)(g:Nat)(p:PV)(m c:Nat)(pace:Int)(many:Nat)(calm:Bool)(k:Nat)(all:List (List Int))(ran:Int)(z:Int):Prop :=
 (z=0/\∃ (nx:Nat) (rep:Int),k<=nx/\nx<=all.length/\0<=rep/\rep<=pace+(nx:Int) - ran/\StOn w' base q g p m (c+2000) pace many calm (all.take nx) nx rep) \/
 (z=50/\calm=false/\∃ k' nx:Nat,k<=k'/\k'<=nx/\nx<=all.length/\StMay w' base q p m (c+2000) pace many k' (all.take nx) ran)
theorem t_open (V:Env p m pace many)(h:iG w base q p m c pace many calm k all ran)(hx:et w base x p)(hcb:c<7000000000000000000) :
 Ca 25 #[.pointer (some ⟨q.d,0,none⟩),.agg #[.slice x.A1 x.n1 x.c1,.slice x.A2 x.n2 x.c2,I p.regs,.slice x.A3 x.n3 x.c3,.slice x.A4 x.n4 x.c4],I pace] w fun e' w'=>
  Step mutE base q w w'/\∃ g z,e'=.returned (.tuple #[.pointer (if z=0 then some ⟨g,0,none⟩ else none),I z])/\OpenR w' base q g p m c pace many calm k all ran z:=by
 have hs:=h.hs;obtain⟨D,N,hd,r,hm,hc,hg⟩:=h.ex;have hV:=V.big;refine (engopen_any hd hs hx V.w (by rw[hm];exact V.h13) (by rw[hm];exact V.lg) V.g.m1 (by rw[hm];exact hV) V.g.pc V.pc (by rw[r.waits];simp)).mono fun e' w' ⟨g,h2,h1⟩=>⟨h2.2.1,g,_,h1,?_⟩
 rcases hg.opened V.g r (by rw[hm];omega) aS with ⟨x1,nx,x2,x3,x4,x5,x6,x7,x8,x9⟩ | ⟨x1,k',nx,x2,x3,x4,y1,y2,y3,y4⟩
 · left
   obtain⟨e,he⟩:=h2.2.2 x1;exact⟨x1,nx,_,x2,x3,x6,x7,aj hs h2.2.1.size,_,_,e,h2.1,he,openE_ok V.w x1,x4.more aS,x8.trans hm,fun q=>x9 (hc q),x5,rfl⟩
 · right
   exact⟨x1,mH hc y2,k',nx,x2,x3,x4,aj hs h2.2.1.size,_,h2.1,y3.trans hm,y4.mono fun N g=>g.mono aS⟩
theorem t_format (V:Env p m pace many){N:Secs}(hd:br w base q D)(hr:Rest D N)(hm:D.many=many)(hs:base<=w.heap.size)(hx:bZ w x p) :
 Ca 27 #[.pointer (some ⟨q.d,0,none⟩),.agg #[.slice x.A1 x.n1 x.c1,.slice x.A2 x.n2 x.c2,I p.regs,.slice x.A3 x.n3 x.c3,.slice x.A4 x.n4 x.c4]] w fun e' w'=>Step mutE base q w w'/\∃ z,e'=.returned (I z) /\
  ((z=0/\iG w' base q p m 0 pace many (decide (D.cut=-1)) 0 [] 0)\/(z=50/\D.cut≠-1/\∃ D',br w' base q D'/\D'.many=many/\Safe D' anyP)):=by
 have hV:=V.big;refine (format_any (m:=m) hd hs hx V.w.hw V.w.hv (by rw[hm];exact V.h13) (by rw[hm];exact V.lg) (by rw[hm];exact hV) (by rw[hr.waits];simp)).mono fun e' w' ⟨h1,h2,h3⟩=>⟨h3.dToE,_,h1,?_⟩
 obtain⟨a1,a2⟩:=hr.formatted (M:=11+m+m) (H:=cw p) aS (by rw[hm];exact hV);rcases a2 with ⟨b1,⟨N',b2,b3,b4⟩,b5⟩ | ⟨b1,b2,b3,b4⟩
 · left
   exact⟨b1,aj hs h3.size,_,N',h2,b2,a1.trans hm,fun q=>b5 (of_decide_eq_true q),good_new V.g.pc b3 b4⟩
 · right
   exact⟨b1,b3,_,h2,a1.trans hm,b4⟩
theorem rest_new (h0:1<=many)(h1:many<=4096):Rest (newV many many) (fun s=>cj (newV many many).now (s:Int)):=⟨(calm_new h0 h1).fit,rfl,fun _ _=>rfl⟩
theorem t_new (w:World)(h0:1<=many)(h1:many<=4096):Ca 28 #[I (many:Nat),I (many:Nat)] w fun e' w'=>∃ q,e'=.returned (.tuple #[.pointer (some ⟨q.d,0,none⟩),I 0])/\br w' w.heap.size q (newV many many)/\Below w.heap.size w w' :=
 (new_ok many many w h0 h1 aS aS).mono fun e' w' ⟨q,h1,h2,h3⟩=>⟨q,h1,⟨_,_,h2⟩,h3⟩
theorem Env.of {p:PV}{m:Nat}(hv:dG p=true)(hw:eN p)(h1:13<=many)(h2:many<=2059)(hm:m=(many - 11) / 2)(p1:1<=pace)(p2:pace<=1024):Env p m pace many:=by
 subst hm;refine⟨⟨hv,hw,?_,aS,by omega,p1⟩,⟨hv,hw,aS⟩,h1,?_,aS,p2⟩
 · unfold cw;omega
 · unfold logN;rw[if_neg aS,if_neg aS];omega
end
def eF:PV:=⟨[1],[1],2,[(1,0)],[⟨28,0,0,0,0⟩,⟨21,1,0,0,0⟩,⟨32,0,0,0,0⟩,⟨29,1,0,0,0⟩]⟩
theorem delay_right:dG eF=true:=by decide +kernel
theorem delay_wf:eN eF:=⟨by decide +kernel,by decide +kernel⟩
def ProgNew (w:World)(P:PV)(e:Ending)(w':World):Prop:=∃ x:PA,e=.returned (.agg #[.slice x.A1 x.n1 x.c1,.slice x.A2 x.n2 x.c2,I P.regs,.slice x.A3 x.n3 x.c3,.slice x.A4 x.n4 x.c4])/\(∀ base,et w' base x P)/\Below w.heap.size w w'
theorem delay_at {W:World}{g1 g2 g3 g4:Nat}(b1:Blk W g1 3 [I 1])(b2:Blk W g2 3 [I 1])(b3:Blk W g3 187 [I 1,I 0])
 (b4:Blk W g4 144 [I 28,I 0,I 0,I 0,I 0,I 21,I 1,I 0,I 0,I 0,I 32,I 0,I 0,I 0,I 0,I 29,I 1,I 0,I 0,I 0]) (base:Nat) :
 et W base ⟨some ⟨g1,0,none⟩,1,1,some ⟨g2,0,none⟩,1,1,some ⟨g3,0,none⟩,1,1,some ⟨g4,0,none⟩,4,4⟩ eF:=by
 have mx:∀ n:Nat,n<=4->n<=n/\n<=maxLen:=fun n hn=>⟨Nat.le_refl _,by unfold maxLen;omega⟩
 refine⟨⟨(Rd.of_block (enc:=iv) (l:=[1]) b1 rfl).ri,(Rd.of_block (enc:=iv) (l:=[1]) b2 rfl).ri,RdS.of_block b3 gR (l:=[(1,0)]) rfl,RdS.of_block b4 gH (l:=[⟨28,0,0,0,0⟩,⟨21,1,0,0,0⟩,⟨32,0,0,0,0⟩,⟨29,1,0,0,0⟩]) rfl,mx 1 aS,mx 1 aS,mx 1 aS,mx 4 aS⟩,fun _ g hg=>?_,fun _ g hg=>?_,fun _ g hg=>?_,fun _ g hg=>?_⟩
 · simp only[Option.map_some,Option.some.injEq] at hg;subst hg;exact .inr ⟨_,b1⟩
 · simp only[Option.map_some,Option.some.injEq] at hg;subst hg;exact .inr ⟨_,b2⟩
 · simp only[Option.map_some,Option.some.injEq] at hg;subst hg;exact .inr ⟨_,b3⟩
 · simp only[Option.map_some,Option.some.injEq] at hg;subst hg;exact .inr ⟨_,b4⟩
theorem delay_any (w:World):Ca 26 #[] w (ProgNew w eF):=by
 go_enter Tryz.func26,Tryz.ntmps26;go_wp2;refine bodyPost_ret (v:=.agg #[.slice (some ⟨w.heap.size+1,0,none⟩) 1 1,.slice (some ⟨w.heap.size+1+1,0,none⟩) 1 1,I 2,.slice (some ⟨w.heap.size+1+1+1,0,none⟩) 1 1,.slice (some ⟨w.heap.size+1+1+1+1,0,none⟩) 4 4]) (by simp[results,Tryz.results26,go_sem]) rfl ?_;refine⟨_,rfl,fun base=>delay_at (g1:=w.heap.size+1) (g2:=w.heap.size+1+1) (g3:=w.heap.size+1+1+1) (g4:=w.heap.size+1+1+1+1) ?_ ?_ ?_ ?_ base,be⟩
 · exact (((Blk.top _ bj rfl).alloc _).alloc _).alloc _
 · exact ((Blk.top _ bj rfl).alloc _).alloc _
 · exact (Blk.top _ bj rfl).alloc _
 · exact Blk.top _ bj rfl
section
variable {w w':World} {base g m c many k tick:Nat} {q:bJ} {p:PV} {pace rep ran:Int} {rows all:List (List Int)} {x:PA}
theorem mI (V:Env p m pace many)(h:StOn w base q g p m c pace many true rows tick rep)(B:Option Addr)(n d:Nat)(l:List Int)(hl:RI w B n l)(hn:n<=maxLen)(hi:eZ l)(hf:cx p.ins l=true)(hlt:rows.length<m) :
 Ca 31 #[.pointer (some ⟨g,0,none⟩),.slice B n d] w fun e' w'=>e'=.returned (.tuple #[I (rows.length:Nat),I 0])/\StOn w' base q g p m c pace many true (rows ++ [l]) tick rep/\Step mutE base q w w' :=
 (t_submit V h B n d l hl hn hi).mono fun e' w' ⟨s,v,z,h1,h2⟩=>by
  rcases h2 with ⟨_,_,x,_⟩ | ⟨_,_,_,x,_⟩ | ⟨rfl,rfl,_,_,x⟩ | ⟨_,_,_,_,x,_⟩
  · rw[hf] at x;cases x
  · omega
  · exact⟨h1,x,s⟩
  · cases x
theorem c_run (V:Env p m pace many)(h:StOn w base q g p m c pace many true rows tick rep)(most:Int)(hmo:0<=most)(hcb:c<7000000000000000000)(n:Nat)(hn:min most ((rows.length:Int) - tick)=(n:Int)) :
 Ca 33 #[.pointer (some ⟨g,0,none⟩),I most] w fun e' w'=>e'=.returned (.tuple #[I (n:Nat),I 0])/\StOn w' base q g p m (c+2000) pace many true rows (tick+n) rep/\Step mutE base q w w' :=
 (t_run V h most hmo hcb).mono fun e' w' ⟨s,v,z,h1,h2⟩=>by
  rcases h2 with ⟨rfl,x1,x2⟩ | ⟨_,_,_,x,_⟩
  · have e:=x1.trans hn;subst e;exact⟨h1,by simpa using x2,s⟩
  · cases x
theorem c_save (V:Env p m pace many)(h:StOn w base q g p m c pace many true rows tick rep)(hcb:c<7000000000000000000) :
 Ca 32 #[.pointer (some ⟨g,0,none⟩)] w fun e' w'=>e'=.returned (I 0)/\StOn w' base q g p m (c+2000) pace many true rows tick rep/\Step mutE base q w w' :=
 (t_save V h hcb).mono fun e' w' ⟨s,z,h1,h2⟩=>by
  rcases h2 with ⟨rfl,x2⟩ | ⟨_,x,_⟩
  · exact⟨h1,x2,s⟩
  · cases x
theorem c_open (V:Env p m pace many)(h:iG w base q p m c pace many true k all ran)(hx:et w base x p)(hcb:c<7000000000000000000)(hk:k=all.length) :
 Ca 25 #[.pointer (some ⟨q.d,0,none⟩),.agg #[.slice x.A1 x.n1 x.c1,.slice x.A2 x.n2 x.c2,I p.regs,.slice x.A3 x.n3 x.c3,.slice x.A4 x.n4 x.c4],I pace] w fun e' w'=>
  ∃ g rep,e'=.returned (.tuple #[.pointer (some ⟨g,0,none⟩),I 0])/\StOn w' base q g p m (c+2000) pace many true all all.length rep/\Step mutE base q w w' :=
 (t_open V h hx hcb).mono fun e' w' ⟨s,g,z,h1,h2⟩=>by
  rcases h2 with ⟨rfl,nx,rep,x1,x2,x3,x4,x5⟩ | ⟨_,x,_⟩
  · have e:nx=all.length:=aS;subst e;rw[List.take_length] at x5;exact⟨g,rep,h1,x5,s⟩
  · cases x
theorem c_format (V:Env p m pace many){N:Secs}(hd:br w base q D)(hr:Rest D N)(hm:D.many=many)(hc:D.cut=-1)(hs:base<=w.heap.size)(hx:bZ w x p) :
 Ca 27 #[.pointer (some ⟨q.d,0,none⟩),.agg #[.slice x.A1 x.n1 x.c1,.slice x.A2 x.n2 x.c2,I p.regs,.slice x.A3 x.n3 x.c3,.slice x.A4 x.n4 x.c4]] w fun e' w'=>e'=.returned (I 0)/\iG w' base q p m 0 pace many true 0 [] 0/\Step mutE base q w w' :=
 (t_format V hd hr hm hs hx).mono fun e' w' ⟨s,z,h1,h2⟩=>by
  rcases h2 with ⟨rfl,x⟩ | ⟨_,x,_⟩
  · rw[am hc] at x;exact⟨h1,x,s⟩
  · exact absurd hc x
end
theorem delay_env {m:Nat}(h1:13<=many)(h2:many<=2059)(hm:m=(many - 11) / 2)(p1:1<=pace)(p2:pace<=1024):Env eF m pace many:=Env.of delay_right delay_wf h1 h2 hm p1 p2
theorem statf1 (a b c d e f:Int)(w:World):(Instr.field 54 (.agg #[I a,I b,I c,I d,I e,I f]) 1).run Tryz.prog w=.ok (I b) w:=by kernel_rfl
theorem statf2 (a b c d e f:Int)(w:World):(Instr.field 54 (.agg #[I a,I b,I c,I d,I e,I f]) 2).run Tryz.prog w=.ok (I c) w:=by kernel_rfl
def gW:List (List Int):=[[5],[6],[7]]
theorem awake38 (w:World):Ca 24 #[] w fun e w'=>e=.returned (.bool true)/\Below w.heap.size w w':=by
 have V:Env eF 10 2 31:=delay_env aS aS rfl aS aS;have hnew:∀ w,Ca 28 #[I 31,I 31] w fun e' w'=>∃ q,e'=.returned (.tuple #[.pointer (some ⟨q.d,0,none⟩),I 0])/\br w' w.heap.size q (newV 31 31)/\Below w.heap.size w w':=fun w=>t_new (many:=31) w aS aS
 have hrn:=rest_new (many:=31) aS aS;have hmn:(newV 31 31).many=31:=rfl;have hcn:(newV 31 31).cut=-1:=rfl;have f5:cx eF.ins [5]=true:=by decide +kernel
 have f6:cx eF.ins [6]=true:=by decide +kernel
 have f7:cx eF.ins [7]=true:=by decide +kernel
 have g2:dM eF gW 2=[6]:=by decide +kernel
 have ik:∀ z:Int,0<=z->z<=10->eZ [z]:=fun z h0 h1 i hi=>by
  have:i=0:=by simpa using hi
  subst this
  show -9223372036854775808<=z/\z<=9223372036854775807
  omega
 have cD:=fun (W:World)=>delay_any W
 have cF:=fun {W:World} {base:Nat} {q:bJ} {x:PA} (hd:br W base q (newV 31 31)) (hs:base<=W.heap.size) (hx:bZ W x eF)=>c_format V hd hrn hmn hcn hs hx
 have cO1:=fun {W:World} {base:Nat} {q:bJ} {x:PA} (h:iG W base q eF 10 0 2 31 true 0 [] 0) (hx:et W base x eF)=>c_open V h hx aS rfl
 have cS:∀ {W:World} {base g gb:Nat} {q:bJ} {rep:Int} {k:Nat},k<3->StOn W base q g eF 10 2000 2 31 true (gW.take k) 0 rep->RI W (some ⟨gb,0,none⟩) 1 [(k:Int)+5] ->
  Ca 31 #[.pointer (some ⟨g,0,none⟩),.slice (some ⟨gb,0,none⟩) 1 1] W fun e' w'=>e'=.returned (.tuple #[I (k:Nat),I 0])/\StOn w' base q g eF 10 2000 2 31 true (gW.take (k+1)) 0 rep/\Step mutE base q W w':=by
  intro W base g gb q rep k hk h hl;have hc:k=0\/k=1\/k=2:=aS;rcases hc with rfl | rfl | rfl
  · exact mI V h _ 1 1 [5] hl aU (ik 5 aS aS) f5 aU
  · exact mI V h _ 1 1 [6] hl aU (ik 6 aS aS) f6 aU
  · exact mI V h _ 1 1 [7] hl aU (ik 7 aS aS) f7 aU
 have cR:=fun {W:World} {base g:Nat} {q:bJ} {rep:Int} (h:StOn W base q g eF 10 2000 2 31 true (gW.take 3) 0 rep)=>
  (show Ca 33 #[.pointer (some ⟨g,0,none⟩),I 1] W fun e' w'=>e'=.returned (.tuple #[I 1,I 0])/\StOn w' base q g eF 10 4000 2 31 true gW 1 rep/\Step mutE base q W w' from c_run V h 1 aS aS 1 aU)
 have cC:=fun {W:World} {base g:Nat} {q:bJ} {rep:Int} (h:StOn W base q g eF 10 4000 2 31 true gW 1 rep)=>
  (show Ca 43 #[.pointer (some ⟨q.d,0,none⟩),.slice none 0 0] W fun e' w'=>e'=.returned (.tuple #[])/\iG w' base q eF 10 4000 2 31 true 3 gW 1/\Step mutE base q W w' from t_crash h.may none 0 0 [] ⟨rfl,Row.nil _ _ _⟩ (fun h=>absurd h aS) aS)
 have cO2:=fun {W:World} {base:Nat} {q:bJ} {x:PA} (h:iG W base q eF 10 4000 2 31 true 3 gW 1) (hx:et W base x eF)=>(show Ca 25 #[.pointer (some ⟨q.d,0,none⟩),.agg #[.slice x.A1 x.n1 x.c1,.slice x.A2 x.n2 x.c2,I eF.regs,.slice x.A3 x.n3 x.c3,.slice x.A4 x.n4 x.c4],I 2] W fun e' w'=>
  ∃ g rep,e'=.returned (.tuple #[.pointer (some ⟨g,0,none⟩),I 0])/\StOn w' base q g eF 10 6000 2 31 true gW 3 rep/\Step mutE base q W w' from c_open V h hx aS rfl)
 have cT:=fun {W:World} {base g:Nat} {q:bJ} {rep:Int} (h:StOn W base q g eF 10 6000 2 31 true gW 3 rep)=>
  (show Ca 98 #[.pointer (some ⟨g,0,none⟩),I 2] W fun e' w'=>∃ B k d,e'=.returned (.tuple #[.slice B k d,I 0])/\Ow iv w' W.heap.size 3 B k d [6]/\StOn w' base q g eF 10 6000 2 31 true gW 3 rep/\Step mutE base q W w' from by
   have:=t_output V h 2 aS;rw[g2] at this;exact this)
 have cA:=fun {W:World} {base g:Nat} {q:bJ} {rep:Int} (h:StOn W base q g eF 10 6000 2 31 true gW 3 rep)=>
  (show Ca 29 #[.pointer (some ⟨g,0,none⟩)] W fun e' w'=>∃ pa sv,e'=.returned (.agg #[I 3,I 3,I 3,I pa,I rep,I sv])/\Below W.heap.size W w' from
   (t_stat h).mono fun e' w' ⟨pa,sv,h1,_,_,_,_,_,h2⟩=>⟨pa,sv,h1,h2⟩)
 have hfd:=fun pa rep sv w=>statf1 3 3 3 pa rep sv w
 clear V hrn hmn hcn f5 f6 f7 g2 ik;generalize newV 31 31=D0 at *;generalize gW=L at *;generalize eF=P at *;go_enter Tryz.func24,Tryz.ntmps24;go_wp2_with (first | ((go_at_call 28;(with_reducible refine (hnew _).mono ?_);rintro e w1 ⟨q,rfl,d1,b1⟩);have D1:=aT d1;have B1:=aT b1;have S1:=b1.size;clear d1 b1) | ((go_at_call 26;(with_reducible refine (cD _).mono ?_);rintro e w2 ⟨x2,rfl,px2,bx2⟩);have D2:=aT (D1.out.below bx2);have B2:=aT (B1.out.trans (bx2.mono B1.out.size));have P2:=aT (px2 0).rd;have S2:=B2.out.size;clear px2 bx2 D1) | ((go_at_call 27;(with_reducible refine (cF D2.out S2 P2.out).mono ?_);rintro e w3 ⟨rfl,r3,s3⟩);have R3:=aT r3;have B3:=aT (B2.out.trans s3.bel);clear r3 s3 D2) | ((go_at_call 26;(with_reducible refine (cD _).mono ?_);rintro e w4 ⟨x4,rfl,px4,bx4⟩);have R4:=aT (R3.out.below bx4);have B4:=aT (B3.out.trans (bx4.mono B3.out.size));have P4:=aT (px4 w.heap.size);clear px4 bx4 R3) | ((go_at_call 25;(with_reducible refine (cO1 R4.out P4.out).mono ?_);rintro e w5 ⟨g5,rep5,rfl,o5,s5⟩);have O5:=aT o5;have B5:=aT (B4.out.trans s5.bel);clear o5 s5 R4) | fail);go_loopw [28] (fun i wr=>∃ k:Nat,k<=3/\i=I (k:Nat)/\Hid (StOn wr w.heap.size q g5 P 10 2000 2 31 true (L.take k) 0 rep5)/\Hid (Below w.heap.size w wr)) (fun i _=>3 - (intOf i).toNat)
 case atStart=>exact⟨0,aS,rfl,O5.out,B5.out⟩
 case round=>
  obtain⟨k,hk,rfl,hO,hB⟩:=hrel;have hs:=hB.out.size;clear O5 B5
  by_cases hlt:k<3
  · go_wp2_with (first | ((go_at_call 31;(with_reducible refine (cS hlt (hO.out.below be) (Rd.of_block (enc:=iv) (l:=[(k:Int)+5]) (dy _ _ bj) rfl).ri).mono ?_);rintro e w6 ⟨rfl,o6,s6⟩);have O6:=aT o6;have B6:=aT (hB.out.trans ((show Below wr.heap.size wr _ from be).mono hs |>.trans s6.bel));clear o6 s6) | fail);go_roundw
    case rel=>first
     | exact⟨k+1,aS,by go_num,O6.out,B6.out⟩
     | ((repeat apply Exists.intro);exact⟨⟨k+1,aS,by go_num,O6.out,B6.out⟩,rfl⟩)
    case measure=>simp[intOf];omega
  · have hk3:k=3:=aS;subst hk3;have O8:=aT hO.out;have B8:=aT hB.out;clear hO hB;go_upto_region 15 with (first | ((go_at_call 33;(with_reducible refine (cR O8.out).mono ?_);rintro e w9 ⟨rfl,o9,s9⟩);have O9:=aT o9;have B9:=aT (B8.out.trans s9.bel);clear o9 s9 O8) | ((go_at_call 43;(with_reducible refine (cC O9.out).mono ?_);rintro e w10 ⟨rfl,o10,s10⟩);have R10:=aT o10;have B10:=aT (B9.out.trans s10.bel);clear o10 s10 O9) | ((go_at_call 26;(with_reducible refine (cD _).mono ?_);rintro e w11 ⟨x11,rfl,px11,bx11⟩);have R11:=aT (R10.out.below bx11);have B11:=aT (B10.out.trans (bx11.mono B10.out.size));have P11:=aT (px11 w.heap.size);clear px11 bx11 R10) | ((go_at_call 25;(with_reducible refine (cO2 R11.out P11.out).mono ?_);rintro e w12 ⟨g12,rep12,rfl,o12,s12⟩);have O12:=aT o12;have B12:=aT (B11.out.trans s12.bel);clear o12 s12 R11) | ((go_at_call 98;(with_reducible refine (cT O12.out).mono ?_);rintro e w13 ⟨A13,n13,c13,rfl,w13',o13,s13⟩);have O13:=aT o13;have B13:=aT (B12.out.trans s13.bel);have W13:=aT w13';clear o13 s13 w13' O12) | fail);have hcp:=W13.out.cap;have hI:=fun (W:World) (g:Nat) (h1:RI W A13 n13 [6]) (h2:RI W (some ⟨g,0,none⟩) 1 [6])=>(show Ca 95 #[.slice A13 n13 c13,.slice (some ⟨g,0,none⟩) 1 1] W fun e w'=>e=.returned (.bool true)/\∃ q,w'=W.drewN q from by
     have:=ints_any A13 (some ⟨g,0,none⟩) n13 1 c13 1 [6] [6] W h1 h2 aS;rw[am (rfl:([6]:List Int)=[6])] at this;exact this)
    go_wp2_with (first | ((go_at_call 29;(with_reducible refine (cA O13.out).mono ?_);rintro e w14 ⟨pa,sv,rfl,b14⟩);have B14:=aT (B13.out.trans (b14.mono B13.out.size));have W14:=aT (W13.out.below b14 aV);clear b14) | ((go_at_call 95;(with_reducible refine (hI _ _ (W14.out.below (b:=w14.heap.size) be aV).rd.ri (Rd.of_block (enc:=iv) (l:=[6]) (dy _ _ bj) rfl).ri).mono ?_);rintro e w15 ⟨rfl,q15,rfl⟩)) | fail);go_ret;exact⟨rfl,B14.out.trans ((show Below w14.heap.size w14 _ from be).mono B14.out.size)⟩
