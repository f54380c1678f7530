/- Parts: EngF, EngT. -/
import Derived.Test.YtmeebofhlilcmaaGreatPr47
set_option linter.unusedVariables false
set_option linter.unusedSimpArgs false
set_option maxRecDepth 100000
set_option maxHeartbeats 0
namespace Go.Proofs.YtmeebofhlilcmaaGreat
variable {w:World} {cs:List Value} {c' many:Nat} {D:aW}
open Go.RowKit
theorem wp_store_eqS {P:Program}{op:Oper}{a:Act}{K:Act->World->Prop}{Q:Exit->Act->World->Prop}(ty:TypeId)(x y:Operand)(ho:op.op=.store ty x y)
 (b o:Nat) (cells:Array Value) (hx:a.eval x=.pointer (some ⟨b,o,none⟩)) (hy:a.eval y=.agg cells)
 (ht:w.there b o cells.size) (hi:(P.info? ty).map (·.size)=some cells.size) (h1:cells.all (·.oneCell')=true)
 (h:∀ w',w'=w.setCells b o cells.toList->K (a.put op.dst undef) w'):op.wp P a w K Q:=wp_store_mid ty x y ho b o cells hx hy ht hi h1 (h _ rfl)
theorem Blk.setAllS {g:Nat}{t:TypeId}{xs:List Value}(h:Blk w g t cs)(hl:xs.length=cs.length):Blk (w.setCells g 0 xs) g t xs:=by
 have:=Blk.setCells xs 0 w cs h aS;rw[dR _ _ aS] at this;exact this
theorem below_setCellsS {B:Nat}{w0:World}{g:Nat}(h:Below B w0 w)(hg:B<=g):∀ (o:Nat) (xs:List Value),Below B w0 (w.setCells g o xs):=by
 intro o xs
 induction xs generalizing o w with
 | nil=>exact h
 | cons x xs ih=>exact ih (h.setCell (p:=⟨g,o,none⟩) hg x) (o+1)
section
variable {w w':World} {base g m:Nat} {q:bB} {D:aW} {e:EP} {p:PV} {hash pace:Int} {E:EgV}
theorem estat_any (h:cF w base q g e m p hash pace E)(hk100:E.k.last.cells.length<=100) :
 Ca 29 #[.pointer (some ⟨g,0,none⟩)] w fun e' w'=>e'=.returned (.agg #[I (E.nIn:Nat),I (E.nOut:Nat),I E.tick,I E.passed,I E.replayed,I (gF E.k).tick])/\Below w.heap.size w w':=by
 have H:=aT h;obtain⟨c0,c1,c2,c3,c4,c5,c6,c7,c8,c9,c10⟩:=h.words;have gl:=h.b.lt;have b1:Below w.heap.size w (w.alloc (.cells #[I 0,I 0,I 0,I 0,I 0,I 0] 54)):=ba;have hla:=klast_any (h.r.below b1).kp hk100;clear h;generalize gF E.k=la at *;go_enter Tryz.func29,Tryz.ntmps29;go_upto_region 4 with (first | ((go_at_call 118;(with_reducible refine (hla).mono ?_);rintro e' w2 ⟨A2,n2,c2',rfl,o2,b2⟩)) | fail);have X2:=Blk.below (w':=w2) (Blk.top w rfl rfl) b2 aZ;have bW:Below w.heap.size w (w2.alloc (.cells #[I la.tick,I la.hash,.slice A2 n2 c2'] 139)):=(b1.trans (b2.mono aZ)).alloc (by have:=b2.size;simp at this;omega) _;have XW:=X2.alloc (.cells #[I la.tick,I la.hash,.slice A2 n2 c2'] 139);have S3:Blk (w2.alloc (.cells #[I la.tick,I la.hash,.slice A2 n2 c2'] 139)) w2.heap.size 139 [I la.tick,I la.hash,.slice A2 n2 c2']:=Blk.top _ rfl rfl;have HW:=aT (H.out.below bW);have BW:=aT bW;have hsn:w2.heap.size≠w.heap.size:=by have:=X2.lt;omega
 refine dv (fun W=>cF W base q g e m p hash pace E/\Blk W w.heap.size 54 [I 0,I 0,I 0,I 0,I 0,I 0]/\Blk W w2.heap.size 139 [I la.tick,I la.hash,.slice A2 n2 c2']/\Below w.heap.size w W) ⟨HW.out,XW,S3,BW.out⟩ ?_;clear bW XW S3 HW BW X2 b2 o2 b1 hla c0 c1 c2 c3 c4 c5 c6 c7 c8 c9 c10 H;generalize w2.heap.size=gs at *;rintro W ⟨HW,XW,SW,BW⟩;obtain⟨c0,c1,c2,c3,c4,c5,c6,c7,c8,c9,c10⟩:=HW.words;have s0:=SW.c0;have hld:=lf (HW.r.below (Below.drew (Below.refl _ _))).inn;have hlo:=nW (HW.r.below (Below.drew (Below.refl _ _))).out;have x0:=XW.cell 0;have xl:=XW.lt;have rL:=XW.frozen 0;have rM:=XW.frozen 1;have rN:=XW.frozen 2;have rO:=XW.frozen 3;have rP:=XW.frozen 4;have rQ:=XW.frozen 5;have gne:=HW.b.ne_ XW aU;go_upto_region 4 with fail;refine wp_region_held_drew (S:=fun w'=>Blk w' g 180 (engC e pace E)/\Blk w' gs 139 [I la.tick,I la.hash,.slice A2 n2 c2']) bE ⟨HW.b.drew,SW.drew⟩ (fun hHeld=>?_);refine aV 0 ?_;refine aV 1 ?_;refine aV 2 ?_;refine aV 3 ?_ (hy:=Or.inl ⟨by rfl,by (intro w hSw;(try dsimp only at hSw);obtain⟨hX,hY⟩:=hSw;have z:=hX.c1;go_simp;rfl)⟩);refine aV 5 ?_;refine aV 6 ?_;refine aV 7 ?_;refine aV 8 ?_ (hy:=Or.inl ⟨by rfl,by (intro w hSw;(try dsimp only at hSw);obtain⟨hX,hY⟩:=hSw;have z:=hX.c2;go_simp;rfl)⟩);refine aV 10 ?_;refine aV 11 ?_;refine aV 12 ?_;refine aV 13 ?_ (hy:=Or.inl ⟨by rfl,by (intro w hSw;(try dsimp only at hSw);obtain⟨hX,hY⟩:=hSw;have z:=hX.c6;go_simp;rfl)⟩);refine aV 14 ?_;refine aV 15 ?_;refine aV 16 ?_;refine aV 17 ?_ (hy:=Or.inl ⟨by rfl,by (intro w hSw;(try dsimp only at hSw);obtain⟨hX,hY⟩:=hSw;have z:=hX.c7;go_simp;rfl)⟩);refine aV 18 ?_;refine aV 19 ?_;refine aV 20 ?_;refine aV 21 ?_ (hy:=Or.inl ⟨by rfl,by (intro w hSw;(try dsimp only at hSw);obtain⟨hX,hY⟩:=hSw;have z:=hX.c8;go_simp;rfl)⟩);refine aV 22 ?_;refine aV 23 ?_ (hy:=Or.inl ⟨by rfl,by (intro w hSw;(try dsimp only at hSw);obtain⟨hX,hY⟩:=hSw;have z:=hY.c0;go_simp;rfl)⟩);refine bI 4 (fun K hK=>?_);go_simp
 (go_at_call 119;(with_reducible refine (hld).mono ?_);rintro e' w3 ⟨rfl,rfl⟩)
 refine hK.out _ _ (⟨HW.b.drew,SW.drew⟩) (fun hHeld=>?_);clear hK K;refine bu ?_;refine bI 9 (fun K hK=>?_);go_simp
 (go_at_call 120;(with_reducible refine (hlo).mono ?_);rintro e' w4 ⟨rfl,rfl⟩)
 refine hK.out _ _ (⟨HW.b.drew,SW.drew⟩) (fun hHeld=>?_);clear hK K;refine bu ?_;refine aV 24 ?_;refine bI 25 (fun K hK=>?_);rw[if_pos (by rfl)];refine wp_store_eqS 54 (.tmp 2) (.tmp 47) rfl w.heap.size 0 ([I (E.nIn:Nat),I (E.nOut:Nat),I E.tick,I E.passed,I E.replayed,I la.tick]).toArray rfl rfl (XW.drew.there 0 6 aZ) bE (all_oneCell_toArray (by intro u hu;simp only[List.mem_cons,List.not_mem_nil,or_false] at hu;rcases hu with rfl | rfl | rfl | rfl | rfl | rfl <;> rfl)) ?_;intro S hS;have XS:Blk S w.heap.size 54 [I (E.nIn:Nat),I (E.nOut:Nat),I E.tick,I E.passed,I E.replayed,I la.tick]:=by rw[hS];exact Blk.setAllS XW.drew rfl
 have HS:Blk S g 180 (engC e pace E):=by rw[hS];exact Blk.setCellsFar gne _ _ _ HW.b.drew
 have SS:Blk S gs 139 [I la.tick,I la.hash,.slice A2 n2 c2']:=by rw[hS];exact Blk.setCellsFar hsn _ _ _ SW.drew
 have BS:Below w.heap.size w S:=by rw[hS];exact below_setCellsS (Below.drew BW) aX _ _
 clear hS;refine hK.out _ _ (⟨HS,SS⟩) (fun hHeld=>?_);clear hK K;refine bu ?_;refine wpAnyH_done bO ?_ _;go_wp2_with fail;have x0:=XS.c0;have x1:=XS.c1;have x2:=XS.c2;have x3:=XS.c3;have x4:=XS.c4;have x5:=XS.c5;refine bodyPost_ret (v:=.agg #[I (E.nIn:Nat),I (E.nOut:Nat),I E.tick,I E.passed,I E.replayed,I la.tick]) (by simp[results,Tryz.results29,go_sem ,x0,x1,x2,x3,x4,x5]) rfl ?_;exact⟨rfl,BS⟩
end
structure Env (p:PV)(m:Nat)(pace:Int)(many:Nat):Prop where
 g:Prg p (ca p) m pace
 w:PrgW p m
 h13:13<=many
 lg:logN (many:Nat)=(m:Nat)
 big:11+m+m<=many
 pc:pace<=1024
structure StOn (w:World)(base:Nat)(q:bB)(g:Nat)(p:PV)(m c:Nat)(pace:Int)(many:Nat)(calm:Bool)(rows:List (List Int))(tick:Nat)(rep:Int):Prop where
 hs:base<=w.heap.size
 ex:∃ D E e,bc w base q D/\cF w base q g e m p (ca p:Nat) pace E/\EgOk m p E/\EgOn p (ca p) m c pace D E rows/\D.many=many/\(calm=true->D.cut=-1)/\E.tick=(tick:Int)/\E.replayed=rep
structure eS (w:World)(base:Nat)(q:bB)(g:Nat)(p:PV)(m c:Nat)(pace:Int)(many k:Nat)(all:List (List Int))(ran:Int):Prop where
 hs:base<=w.heap.size
 ex:∃ D E e,bc w base q D/\cF w base q g e m p (ca p:Nat) pace E/\EgOk m p E/\E.off=true/\D.off=true/\D.many=many/\D.waits.length<=100000/\May D (Good p (ca p) m c pace k all ran)/\k<=E.nIn/\E.nOut<=E.nIn
structure fk (w:World)(base:Nat)(q:bB)(p:PV)(m c:Nat)(pace:Int)(many k:Nat)(all:List (List Int))(ran:Int):Prop where
 hs:base<=w.heap.size
 ex:∃ D,bc w base q D/\D.many=many/\May D (Good p (ca p) m c pace k all ran)
structure fY (w:World)(base:Nat)(q:bB)(p:PV)(m c:Nat)(pace:Int)(many:Nat)(calm:Bool)(k:Nat)(all:List (List Int))(ran:Int):Prop where
 hs:base<=w.heap.size
 ex:∃ D N,bc w base q D/\Rest D N/\D.many=many/\(calm=true->D.cut=-1)/\Good p (ca p) m c pace k all ran N
section
variable {M:List TypeId} {w w':World} {base g m c many k tick:Nat} {q:bB} {p:PV} {pace rep ran:Int} {calm:Bool} {rows all:List (List Int)} {x:PA}
theorem StOn.may (h:StOn w base q g p m c pace many calm rows tick rep):fk w base q p m c pace many rows.length rows tick:=by
 obtain⟨D,E,e,hd,hi,ok,on,hm,hc,ht,hr⟩:=h.ex;exact⟨h.hs,D,hd,hm,by rw[<- ht];exact on.may⟩
theorem eS.may (h:eS w base q g p m c pace many k all ran):fk w base q p m c pace many k all ran:=by
 obtain⟨D,E,e,hd,hi,ok,ho,hdo,hm,hw,hmay,_⟩:=h.ex;exact⟨h.hs,D,hd,hm,hmay⟩
theorem fk.more (h:fk w base q p m c pace many k all ran)(hc:c<=c'):fk w base q p m c' pace many k all ran:=by
 obtain⟨D,hd,hm,hmay⟩:=h.ex;exact⟨h.hs,D,hd,hm,hmay.mono fun N g=>g.mono hc⟩
theorem eS.more (h:eS w base q g p m c pace many k all ran)(hc:c<=c'):eS w base q g p m c' pace many k all ran:=by
 obtain⟨D,E,e,hd,hi,ok,ho,hdo,hm,hw,hmay,h1,h2⟩:=h.ex;exact⟨h.hs,D,E,e,hd,hi,ok,ho,hdo,hm,hw,hmay.mono fun N g=>g.mono hc,h1,h2⟩
theorem StOn.more (h:StOn w base q g p m c pace many calm rows tick rep)(hc:c<=c'):StOn w base q g p m c' pace many calm rows tick rep:=by
 obtain⟨D,E,e,hd,hi,ok,on,hm,h4,ht,hr⟩:=h.ex;exact⟨h.hs,D,E,e,hd,hi,ok,on.more hc,hm,h4,ht,hr⟩
theorem StOn.below (h:StOn w base q g p m c pace many calm rows tick rep)(hb:Below w.heap.size w w'):StOn w' base q g p m c pace many calm rows tick rep:=by
 obtain⟨D,E,e,hd,hi,ok,on,hm,hc,ht,hr⟩:=h.ex;exact⟨ae h.hs hb.size,D,E,e,hd.below hb,hi.below hb,ok,on,hm,hc,ht,hr⟩
theorem eS.below (h:eS w base q g p m c pace many k all ran)(hb:Below w.heap.size w w'):eS w' base q g p m c pace many k all ran:=by
 obtain⟨D,E,e,hd,hi,h2⟩:=h.ex;exact⟨ae h.hs hb.size,D,E,e,hd.below hb,hi.below hb,h2⟩
theorem fk.below (h:fk w base q p m c pace many k all ran)(hb:Below w.heap.size w w'):fk w' base q p m c pace many k all ran:=by
 obtain⟨D,hd,h2⟩:=h.ex;exact⟨ae h.hs hb.size,D,hd.below hb,h2⟩
theorem fY.below (h:fY w base q p m c pace many calm k all ran)(hb:Below w.heap.size w w'):fY w' base q p m c pace many calm k all ran:=by
 obtain⟨D,N,hd,h2⟩:=h.ex;exact⟨ae h.hs hb.size,D,N,hd.below hb,h2⟩
theorem bc.other {gy i:Nat}{t:TypeId}(hd:bc w base q D)(Y:Blk w gy t cs)(ht:t ∉ 4 :: mutD)(u:Value):bc (w.setCell ⟨gy,i,none⟩ u) base q D:=by
 obtain⟨A9,c9,h9⟩:=hd;exact⟨A9,c9,h9.keep (F:=(·=gy)) (Keep.one (dU _)) (fun g9 hf e=>by
  subst e;rcases h9.foot_ty Y hf with r | r | r | r | r <;> exact absurd (by rw[r];decide) ht)⟩
def SubR (w':World)(base:Nat)(q:bB)(g:Nat)(p:PV)(m c:Nat)(pace:Int)(many:Nat)(calm:Bool)(rows:List (List Int))(tick:Nat)(rep:Int)(l:List Int)(n z:Int):Prop :=
 (z=41/\n=0/\cI p.ins l=false/\StOn w' base q g p m c pace many calm rows tick rep) \/
 (z=52/\n=0/\cI p.ins l=true/\rows.length=m/\StOn w' base q g p m c pace many calm rows tick rep) \/
 (z=0/\n=(rows.length:Int)/\cI p.ins l=true/\rows.length<m/\StOn w' base q g p m c pace many calm (rows ++ [l]) tick rep) \/
 (z=50/\n=0/\cI p.ins l=true/\rows.length<m/\calm=false/\eS w' base q g p m c pace many rows.length (rows ++ [l]) tick)
theorem mz (hc:calm=true->D.cut=-1)(h:D.cut≠-1):calm=false:=by
 cases calm with
 | false=>rfl
 | true=>exact absurd (hc rfl) h
theorem sub_okE {E:EgV}{l:List Int}(ok:EgOk m p E):EgOk m p (subE m p D E l).2.1/\(subE m p D E l).1.many=D.many/\(subE m p D E l).1.waits.length<=D.waits.length+1/\(subE m p D E l).2.1.nOut=E.nOut/\E.nIn<=(subE m p D E l).2.1.nIn/\(subE m p D E l).2.1.replayed=E.replayed:=by
 unfold subE
 split
 · exact⟨ok,rfl,by simp,rfl,Nat.le_refl _,rfl⟩
 obtain⟨a1,a2,a3,a4⟩:=fAddV_few D 11 m 3 E.nIn p.ins l ok.i0;unfold subB;have:=ok.t1;refine⟨EgOk.told (E:={ E with nIn:=(dY D 11 m 3 E.nIn p.ins l).2.1 }) ⟨a3,ok.o0,ok.t0,?_,ok.p0,ok.p1,ok.r0,ok.r1,ok.cf,ok.c64,ok.kl,ok.kn⟩ _,a1,a2,rfl,a4,rfl⟩
 show E.tick<=((dY D 11 m 3 E.nIn p.ins l).2.1:Int)
 omega
theorem t_submit (V:Env p m pace many)(h:StOn w base q g p m c pace many calm rows tick rep)(B:Option Addr)(n d:Nat)(l:List Int)(hl:RI w B n l)(hn:n<=maxLen)(hi:eE l) :
 Ca 31 #[.pointer (some ⟨g,0,none⟩),.slice B n d] w fun e' w'=>Step mutE base q w w'/\∃ v z,e'=.returned (.tuple #[I v,I z])/\SubR w' base q g p m c pace many calm rows tick rep l v z:=by
 have hs:=h.hs;obtain⟨D,E,e,hd,hin,ok,on,hm,hc,ht,hr⟩:=h.ex;obtain⟨f1,f2,f3,f4,f5,f6,f7,f8,f9,f10,f11⟩:=on.facts;have hm2:=V.g.m2;refine (pW hin ok V.w hd hs f8 (by rw[f7];simp) B n d l hl hn hi).mono fun e' w' ⟨h1,h2⟩=>⟨h2.s,_,_,h1,?_⟩
 obtain⟨o1,o2,o3,o4,o5,o6⟩:=sub_okE (D:=D) (l:=l) ok;have hun:cI p.ins l=false->(subE m p D E l).2.2=(0,41):=fun q=>sub_unfit f1 q
 rcases on.sub V.g hi with ⟨x1,x2⟩ | ⟨x1,x2⟩ | ⟨x1,x2,x3,x4,x5,x6⟩ | ⟨x1,x2,x3,x4,x5⟩
 · left
   rw[x1] at h2;rw[x1];exact⟨rfl,rfl,x2,ae hs h2.s.size,D,E,e,h2.d,h2.i,ok,on,hm,hc,ht,hr⟩
 · right;left
   have hf:cI p.ins l=true:=by
    cases hb:cI p.ins l with
    | true=>rfl
    | false=>
      have:=hun hb;rw[x1] at this;simp at this
   rw[x1] at h2;rw[x1];exact⟨rfl,rfl,hf,x2,ae hs h2.s.size,D,E,e,h2.d,h2.i,ok,on,hm,hc,ht,hr⟩
 · right;right;left
   have:=x3.facts;have hlen:=this.2.2.2.2.1;rw[aw,aF] at hlen;rw[x1];exact⟨rfl,rfl,x2,aS,ae hs h2.s.size,_,_,e,h2.d,h2.i,o1,x3,x5.trans hm,fun q=>x6 (hc q),x4.trans ht,o6.trans hr⟩
 · right;right;right
   obtain⟨y1,y2,y3,y4⟩:=x4;rw[x1];exact⟨rfl,rfl,x2,x3,mz hc y2,ae hs h2.s.size,_,_,e,h2.d,h2.i,o1,x5,y1,y3.trans hm,by rw[f7] at o3;simp at o3;omega,by rw[<- ht];exact y4,aS,aS⟩
def RunR (w':World)(base:Nat)(q:bB)(g:Nat)(p:PV)(m c:Nat)(pace:Int)(many:Nat)(calm:Bool)(rows:List (List Int))(tick:Nat)(rep most:Int)(n z:Int):Prop :=
 (z=0/\n=min most ((rows.length:Int) - tick)/\StOn w' base q g p m (c+2000) pace many calm rows (tick+n.toNat) rep) \/
 (z=50/\0<=n/\n<=min most ((rows.length:Int) - tick)/\calm=false/\eS w' base q g p m (c+2000) pace many rows.length rows (tick+n))
theorem StOn.le (h:StOn w base q g p m c pace many calm rows tick rep):tick<=rows.length/\rows.length<=m/\0<=rep/\rep<=tick/\eY p.ins rows:=by
 obtain⟨D,E,e,hd,hin,ok,on,hm,hc,ht,hr⟩:=h.ex;obtain⟨f1,f2,f3,f4,f5,f6,f7,f8,f9,f10,f11⟩:=on.facts;have:=ok.r0;have:=ok.r1;exact⟨aS,f5,aS,by omega,f9⟩
theorem t_run (V:Env p m pace many)(h:StOn w base q g p m c pace many calm rows tick rep)(most:Int)(hmo:0<=most)(hcb:c<7000000000000000000) :
 Ca 33 #[.pointer (some ⟨g,0,none⟩),I most] w fun e' w'=>Step mutE base q w w'/\∃ n z,e'=.returned (.tuple #[I n,I z])/\RunR w' base q g p m c pace many calm rows tick rep most n z:=by
 have hs:=h.hs;obtain⟨hle,_⟩:=h.le;obtain⟨D,E,e,hd,hin,ok,on,hm,hc,ht,hr⟩:=h.ex;obtain⟨f1,f2,f3,f4,f5,f6,f7,f8,f9,f10,f11⟩:=on.facts;have hm2:=V.g.m2;have hp:=runE_pub (D:=D) (hash:=(ca p:Nat)) (pace:=pace) V.w most ok;have hun:runE m p (ca p:Nat) pace most D E=runA (runK m p (ca p:Nat) pace most ((E.nIn:Int) - E.tick).toNat 0 D E):=by
  unfold runE;rw[if_neg (by rw[f1];simp),if_neg aS]
 have hc1:=run_on hin ok V.w hd hs f8 (by rw[f7];simp) most hmo f1;rw[<- hun] at hc1;refine hc1.mono fun e' w' ⟨A,n,cc,h1,h2⟩=>⟨h2.s,_,_,h1,?_⟩
 have hw:=hp.waits;rw[f7] at hw;simp at hw;rcases on.run V.g most hmo aS with ⟨x1,x2,x3,x4,x5,x6⟩ | ⟨x1,x2,x3,x4,x5⟩
 · left
   refine⟨x1,by rw[x4,ht],ae hs h2.s.size,_,_,_,h2.d,h2.i,hp.ok,x2.more aS,x5.trans hm,fun q=>x6 (hc q),?_,hp.rep.trans hr⟩;rw[x3,ht,x4];have h5:(0:Int)<=min most ((rows.length:Int) - E.tick):=aS
   push_cast
   rw[Int.toNat_of_nonneg h5]
 · right
   obtain⟨y1,y2,y3,y4⟩:=x4;rw[ht] at x3 y4;exact⟨x1,x2,x3,mz hc y2,ae hs h2.s.size,_,_,_,h2.d,h2.i,hp.ok,x5,y1,y3.trans hm,aS,y4.mono fun N g=>g.mono aS,by rw[hp.nin];omega,by rw[hp.nin];exact hp.io aS⟩
def SaveR (w':World)(base:Nat)(q:bB)(g:Nat)(p:PV)(m c:Nat)(pace:Int)(many:Nat)(calm:Bool)(rows:List (List Int))(tick:Nat)(rep:Int)(z:Int):Prop :=
 (z=0/\StOn w' base q g p m (c+2000) pace many calm rows tick rep) \/
 (z=50/\calm=false/\eS w' base q g p m (c+2000) pace many rows.length rows tick)
theorem t_save (V:Env p m pace many)(h:StOn w base q g p m c pace many calm rows tick rep)(hcb:c<7000000000000000000) :
 Ca 32 #[.pointer (some ⟨g,0,none⟩)] w fun e' w'=>Step mutE base q w w'/\∃ z,e'=.returned (I z)/\SaveR w' base q g p m c pace many calm rows tick rep z:=by
 have hs:=h.hs;obtain⟨D,E,e,hd,hin,ok,on,hm,hc,ht,hr⟩:=h.ex;obtain⟨f1,f2,f3,f4,f5,f6,f7,f8,f9,f10,f11⟩:=on.facts;have hp:=saveE_pub (D:=D) (hash:=(ca p:Nat)) ok;refine (saveE_any hin ok V.w hd hs f8 (by rw[f7];simp)).mono fun e' w' ⟨h1,h2⟩=>⟨h2.s,_,h1,?_⟩
 have hw:=hp.waits;rw[f7] at hw;simp at hw;rcases on.save V.g aS with ⟨x1,x2,x3,x5,x6⟩ | ⟨x1,x4,x5⟩
 · left
   exact⟨x1,ae hs h2.s.size,_,_,_,h2.d,h2.i,hp.ok,x2.more aS,x5.trans hm,fun q=>x6 (hc q),x3.trans ht,hp.rep.trans hr⟩
 · right
   obtain⟨y1,y2,y3,y4⟩:=x4;rw[ht] at y4;exact⟨x1,mz hc y2,ae hs h2.s.size,_,_,_,h2.d,h2.i,hp.ok,x5,y1,y3.trans hm,aS,y4.mono fun N g=>g.mono aS,by rw[hp.nin];omega,by rw[hp.nin];exact hp.io aS⟩
theorem t_output (V:Env p m pace many)(h:StOn w base q g p m c pace many calm rows tick rep)(t:Nat)(ht0:t<tick) :
 Ca 98 #[.pointer (some ⟨g,0,none⟩),I (t:Nat)] w fun e' w'=>∃ B k d,e'=.returned (.tuple #[.slice B k d,I 0])/\Ow iv w' w.heap.size 3 B k d (ed p rows t)/\StOn w' base q g p m c pace many calm rows tick rep/\Step mutE base q w w':=by
 have hs:=h.hs;obtain⟨D,E,e,hd,hin,ok,on,hm,hc,ht,hr⟩:=h.ex;obtain⟨f1,f2,f3,f4,f5,f6,f7,f8,f9,f10,f11⟩:=on.facts;have hg:=on.output V.g (t:=t) aS;have h1:=output_any hin ok V.w hd hs f8 (t:Int);rw[hg] at h1;refine h1.mono fun e' w' ⟨B,k,d,h1,h2,h3⟩=>⟨B,k,d,h1,h2,⟨ae hs h3.s.size,_,E,e,h3.d,h3.i,ok,on.ops _,hm,hc,ht,hr⟩,h3.s⟩
theorem EgOn.saved {E:EgV}{H:Nat}(h:EgOn p H m c pace D E rows):0<=(gF E.k).tick/\(gF E.k).tick<=E.tick:=by
 obtain⟨N,kS,s,n,last,is,h⟩:=h;have q:=h.mid;have h0:=q.t0;have hks:=q.ksle;have hat:=h.at_;rw[q.ek];unfold gF kOf;rcases aG n with z | z
 · subst z;simp[fg];exact h0
 · obtain⟨_,k1,k2⟩:=q.kc z;have hne:¬ n=0:=aS;simp only[hne,z,decide_true,if_true,if_false]
   first
    | exact⟨k1,aS⟩
    | (simp[hne];exact⟨k1,aS⟩)
theorem t_stat (h:StOn w base q g p m c pace many calm rows tick rep) :
 Ca 29 #[.pointer (some ⟨g,0,none⟩)] w fun e' w'=>∃ pa sv,e'=.returned (.agg #[I (rows.length:Nat),I (tick:Nat),I (tick:Nat),I pa,I rep,I sv])/\0<=pa/\pa<pace/\pa<=tick/\0<=sv/\sv<=tick/\Below w.heap.size w w':=by
 obtain⟨D,E,e,hd,hin,ok,on,hm,hc,ht,hr⟩:=h.ex;obtain⟨f1,f2,f3,f4,f5,f6,f7,f8,f9,f10,f11⟩:=on.facts;obtain⟨s1,s2⟩:=on.saved;have hp1:=ok.p1;refine (estat_any hin ok.kl).mono fun e' w' ⟨h1,h2⟩=>⟨E.passed,(gF E.k).tick,?_,f11,f10,aS,s1,aS,h2⟩
 rw[h1,f2,hr,<- ht,<- f3]
theorem t_crash (h:fk w base q p m c pace many k all ran)(B:Option Addr)(n d:Nat)(cs:List UInt8)(hl:RB w B n cs)(hB:0<n->∀ g,B.map (·.block)=some g->g<base)(hn:n<=maxLen) :
 Ca 43 #[.pointer (some ⟨q.d,0,none⟩),.slice B n d] w fun e' w'=>e'=.returned (.tuple #[])/\fY w' base q p m c pace many true k all ran/\Step mutE base q w w':=by
 have hs:=h.hs;obtain⟨D,hd,hm,hmay⟩:=h.ex;obtain⟨N,r1,r2,r3,r4⟩:=hmay.crash cs;exact (s_crash hd hs B n d cs hl hB hn).mono fun e' w' ⟨h1,h2,h3⟩=>⟨h1,⟨ae hs h3.size,_,N,h2,r1,r4.trans hm,fun _=>r3,r2⟩,h3.dToE⟩
theorem t_cutR (h:fY w base q p m c pace many calm k all ran)(n:Int)(hn:n<=9223372036854775807) :
 Ca 42 #[.pointer (some ⟨q.d,0,none⟩),I n] w fun e' w'=>e'=.returned (.tuple #[])/\fY w' base q p m c pace many (decide (n<=-1)) k all ran/\Step mutE base q w w':=by
 have hs:=h.hs;obtain⟨D,N,hd,r,hm,hc,hg⟩:=h.ex;exact (s_cut hd hs n hn).mono fun e' w' ⟨h1,h2,h3⟩=>⟨h1,⟨ae hs h3.size,_,N,h2,r.cutTo _ aS aS,hm,fun q=>by have:=of_decide_eq_true q;show max n (-1)=-1;omega,hg⟩,h3.dToE⟩
theorem t_cut (h:StOn w base q g p m c pace many calm rows tick rep)(n:Int)(hn:n<=9223372036854775807) :
 Ca 42 #[.pointer (some ⟨q.d,0,none⟩),I n] w fun e' w'=>e'=.returned (.tuple #[])/\StOn w' base q g p m c pace many (decide (n<=-1)) rows tick rep/\Step mutE base q w w':=by
 have hs:=h.hs;obtain⟨D,E,e,hd,hin,ok,on,hm,hc,ht,hr⟩:=h.ex;exact (s_cut hd hs n hn).mono fun e' w' ⟨h1,h2,h3⟩=>⟨h1,⟨ae hs h3.size,_,E,e,h2,hin.stepD hd h3,ok,on.cutTo _ aS aS,hm,fun q=>by have:=of_decide_eq_true q;show max n (-1)=-1;omega,ht,hr⟩,h3.dToE⟩
theorem May.cutTo {G:Secs->Prop}(h:May D G)(n:Int)(h0:-1<=n)(h1:n<=9223372036854775807):May { D with cut:=n } G:=by
 obtain⟨P,hs,h2⟩:=h;exact⟨P,⟨by
  have o:=hs.ok;exact⟨o.many0,o.many1,o.kept,o.now,o.inuse,o.might,o.waits,o.room,⟨h0,h1⟩,o.few⟩,hs.room,hs.kept,hs.shut⟩,h2⟩
theorem t_cutO (h:eS w base q g p m c pace many k all ran)(n:Int)(hn:n<=9223372036854775807) :
 Ca 42 #[.pointer (some ⟨q.d,0,none⟩),I n] w fun e' w'=>e'=.returned (.tuple #[])/\eS w' base q g p m c pace many k all ran/\Step mutE base q w w':=by
 have hs:=h.hs;obtain⟨D,E,e,hd,hin,ok,ho,hdo,hm,hw,hmay,i1,i2⟩:=h.ex;exact (s_cut hd hs n hn).mono fun e' w' ⟨h1,h2,h3⟩=>⟨h1,⟨ae hs h3.size,_,E,e,h2,hin.stepD hd h3,ok,ho,hdo,hm,hw,hmay.cutTo _ aS aS,i1,i2⟩,h3.dToE⟩
theorem t_cutM (h:fk w base q p m c pace many k all ran)(n:Int)(hn:n<=9223372036854775807) :
 Ca 42 #[.pointer (some ⟨q.d,0,none⟩),I n] w fun e' w'=>e'=.returned (.tuple #[])/\fk w' base q p m c pace many k all ran/\Step mutE base q w w':=by
 have hs:=h.hs;obtain⟨D,hd,hm,hmay⟩:=h.ex;exact (s_cut hd hs n hn).mono fun e' w' ⟨h1,h2,h3⟩=>⟨h1,⟨ae hs h3.size,_,h2,hm,hmay.cutTo _ aS aS⟩,h3.dToE⟩
def OpenR (w':World)(base:Nat)(q:bB)(g:Nat)(p:PV)(m c:Nat)(pace:Int)(many:Nat)(calm:Bool)(k:Nat)(all:List (List Int))(ran:Int)(z:Int):Prop :=
 (z=0/\∃ (nx:Nat) (rep:Int),k<=nx/\nx<=all.length/\0<=rep/\rep<=pace+(nx:Int) - ran/\StOn w' base q g p m (c+2000) pace many calm (all.take nx) nx rep) \/
 (z=50/\calm=false/\∃ k' nx:Nat,k<=k'/\k'<=nx/\nx<=all.length/\fk w' base q p m (c+2000) pace many k' (all.take nx) ran)
theorem t_open (V:Env p m pace many)(h:fY w base q p m c pace many calm k all ran)(hx:dG w base x p)(hcb:c<7000000000000000000) :
 Ca 25 #[.pointer (some ⟨q.d,0,none⟩),.agg #[.slice x.A1 x.n1 x.c1,.slice x.A2 x.n2 x.c2,I p.regs,.slice x.A3 x.n3 x.c3,.slice x.A4 x.n4 x.c4],I pace] w fun e' w'=>
  Step mutE base q w w'/\∃ g z,e'=.returned (.tuple #[.pointer (if z=0 then some ⟨g,0,none⟩ else none),I z])/\OpenR w' base q g p m c pace many calm k all ran z:=by
 have hs:=h.hs;obtain⟨D,N,hd,r,hm,hc,hg⟩:=h.ex;have hV:=V.big;refine (pR hd hs hx V.w (by rw[hm];exact V.h13) (by rw[hm];exact V.lg) V.g.m1 (by rw[hm];exact hV) V.g.pc V.pc (by rw[r.waits];simp)).mono fun e' w' ⟨g,h2,h1⟩=>⟨h2.2.1,g,_,h1,?_⟩
 rcases hg.opened V.g r (by rw[hm];omega) aS with ⟨x1,nx,x2,x3,x4,x5,x6,x7,x8,x9⟩ | ⟨x1,k',nx,x2,x3,x4,y1,y2,y3,y4⟩
 · left
   obtain⟨e,he⟩:=h2.2.2 x1;exact⟨x1,nx,_,x2,x3,x6,x7,ae hs h2.2.1.size,_,_,e,h2.1,he,openE_ok V.w x1,x4.more aS,x8.trans hm,fun q=>x9 (hc q),x5,rfl⟩
 · right
   exact⟨x1,mz hc y2,k',nx,x2,x3,x4,ae hs h2.2.1.size,_,h2.1,y3.trans hm,y4.mono fun N g=>g.mono aS⟩
theorem t_format (V:Env p m pace many){N:Secs}(hd:bc w base q D)(hr:Rest D N)(hm:D.many=many)(hs:base<=w.heap.size)(hx:dd w x p) :
 Ca 27 #[.pointer (some ⟨q.d,0,none⟩),.agg #[.slice x.A1 x.n1 x.c1,.slice x.A2 x.n2 x.c2,I p.regs,.slice x.A3 x.n3 x.c3,.slice x.A4 x.n4 x.c4]] w fun e' w'=>Step mutE base q w w'/\∃ z,e'=.returned (I z) /\
  ((z=0/\fY w' base q p m 0 pace many (decide (D.cut=-1)) 0 [] 0)\/(z=50/\D.cut≠-1/\∃ D',bc w' base q D'/\D'.many=many/\Safe D' anyP)):=by
 have hV:=V.big;refine (ms (m:=m) hd hs hx V.w.hw V.w.hv (by rw[hm];exact V.h13) (by rw[hm];exact V.lg) (by rw[hm];exact hV) (by rw[hr.waits];simp)).mono fun e' w' ⟨h1,h2,h3⟩=>⟨h3.dToE,_,h1,?_⟩
 obtain⟨a1,a2⟩:=hr.formatted (M:=11+m+m) (H:=ca p) aS (by rw[hm];exact hV);rcases a2 with ⟨b1,⟨N',b2,b3,b4⟩,b5⟩ | ⟨b1,b2,b3,b4⟩
 · left
   exact⟨b1,ae hs h3.size,_,N',h2,b2,a1.trans hm,fun q=>b5 (of_decide_eq_true q),good_new V.g.pc b3 b4⟩
 · right
   exact⟨b1,b3,_,h2,a1.trans hm,b4⟩
theorem rest_new (h0:1<=many)(h1:many<=4096):Rest (newV many many) (fun s=>bT (newV many many).now (s:Int)):=⟨(calm_new h0 h1).fit,rfl,fun _ _=>rfl⟩
theorem t_new (w:World)(h0:1<=many)(h1:many<=4096):Ca 28 #[I (many:Nat),I (many:Nat)] w fun e' w'=>∃ q,e'=.returned (.tuple #[.pointer (some ⟨q.d,0,none⟩),I 0])/\bc w' w.heap.size q (newV many many)/\Below w.heap.size w w' :=
 (new_ok many many w h0 h1 aS aS).mono fun e' w' ⟨q,h1,h2,h3⟩=>⟨q,h1,⟨_,_,h2⟩,h3⟩
theorem Env.of {p:PV}{pace:Int}{m:Nat}(hv:dw p=true)(hw:el p)(h1:13<=many)(h2:many<=2059)(hm:m=(many - 11) / 2)(p1:1<=pace)(p2:pace<=1024):Env p m pace many:=by
 subst hm;refine⟨⟨hv,hw,?_,aS,by omega,p1⟩,⟨hv,hw,aS⟩,h1,?_,aS,p2⟩
 · unfold ca;omega
 · unfold logN;rw[if_neg aS,if_neg aS];omega
end
end Go.Proofs.YtmeebofhlilcmaaGreat
