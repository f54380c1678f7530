/- Parts: EngF, EngT. -/
import Derived.Test.YtmeebofhlilcmaaGreatPr02
import Derived.Test.YtmeebofhlilcmaaGreatPr50
import Derived.Test.YtmeebofhlilcmaaGreatPr38
import Derived.Test.YtmeebofhlilcmaaGreatPr51
import Derived.Test.YtmeebofhlilcmaaGreatPr43
set_option linter.unusedVariables false
set_option linter.unusedSimpArgs false
set_option maxRecDepth 100000
set_option maxHeartbeats 40000000
namespace Go.Proofs.YtmeebofhlilcmaaGreat
open Go.RowKit
theorem wp_store_eqS {P:Program} {op:Oper} {a:Act} {w:World} {K:Act→World→Prop} {Q:Exit→Act→World→Prop} (ty:TypeId) (x y:Operand) (ho:op.op=.store ty x y)
    (b o:Nat) (cells:Array Value) (hx:a.eval x=.pointer (some ⟨b,o,none⟩)) (hy:a.eval y=.agg cells)
    (ht:w.there b o cells.size) (hi:(P.info? ty).map (·.size)=some cells.size) (h1:cells.all (·.oneCell')=true)
    (h:∀ w',w'=w.setCells b o cells.toList→K (a.put op.dst undef) w'):op.wp P a w K Q:=wp_store_mid ty x y ho b o cells hx hy ht hi h1 (h _ rfl)
theorem Blk.setAllS {w:World} {g:Nat} {t:TypeId} {cs xs:List Value} (h:Blk w g t cs) (hl:xs.length=cs.length):Blk (w.setCells g 0 xs) g t xs:=by
  have:=Blk.setCells xs 0 w cs h omg;rw [qc1 _ _ omg] at this;exact this
theorem below_setCellsS {B:Nat} {w0 w:World} {g:Nat} (h:Below B w0 w) (hg:B≤g):∀ (o:Nat) (xs:List Value),Below B w0 (w.setCells g o xs):=by
  intro o xs
  induction xs generalizing o w with
  | nil => exact h
  | cons x xs ih => exact ih (h.setCell (p:=⟨g,o,none⟩) hg x) (o+1)
section
variable {w w':World} {base g m:Nat} {q:qb9} {D:qa1} {e:EP} {p:PV} {hash pace:Int} {E:EgV}
theorem estat_any (h:qi1 w base q g e m p hash pace E) (hk100:E.k.last.cells.length≤100) :
    Calls Tryz.prog 29 #[.pointer (some ⟨g,0,none⟩)] w fun e' w' => e'=.returned (.agg #[.int .i64 (E.nIn:Nat),.int .i64 (E.nOut:Nat),.int .i64 E.tick,.int .i64 E.passed,.int .i64 E.replayed,.int .i64 (qu5 E.k).tick])∧Below w.heap.size w w':=by
  have H:=hdd h;obtain ⟨c0,c1,c2,c3,c4,c5,c6,c7,c8,c9,c10⟩:=h.words;have gl:=h.b.lt;have b1:Below w.heap.size w (w.alloc (.cells #[.int .i64 0,.int .i64 0,.int .i64 0,.int .i64 0,.int .i64 0,.int .i64 0] 54)):=gwn;have hla:=klast_any (h.r.below b1).kp hk100;clear h;generalize qu5 E.k=la at *;go_enter Tryz.func29,Tryz.ntmps29;go_upto_region 4 with (first | ((go_at_call 118;(with_reducible refine (hla).mono ?_);rintro e' w2 ⟨A2,n2,c2',rfl,o2,b2⟩)) | fail "no arm");have X2:Blk w2 w.heap.size 54 [.int .i64 0,.int .i64 0,.int .i64 0,.int .i64 0,.int .i64 0,.int .i64 0]:=Blk.below (w':=w2) (Blk.top w rfl rfl) b2 smp;have bW:Below w.heap.size w (w2.alloc (.cells #[.int .i64 la.tick,.int .i64 la.hash,.slice A2 n2 c2'] 139)):=(b1.trans (b2.mono smp)).alloc (by have:=b2.size;simp at this;omega) _;have XW:=X2.alloc (.cells #[.int .i64 la.tick,.int .i64 la.hash,.slice A2 n2 c2'] 139);have S3:Blk (w2.alloc (.cells #[.int .i64 la.tick,.int .i64 la.hash,.slice A2 n2 c2'] 139)) w2.heap.size 139 [.int .i64 la.tick,.int .i64 la.hash,.slice A2 n2 c2']:=Blk.top _ rfl rfl;have HW:=hdd (H.out.below bW);have BW:=hdd bW;have hsn:w2.heap.size≠w.heap.size:=by have:=X2.lt;omega
  refine qd5 (fun W => qi1 W base q g e m p hash pace E∧Blk W w.heap.size 54 [.int .i64 0,.int .i64 0,.int .i64 0,.int .i64 0,.int .i64 0,.int .i64 0]∧Blk W w2.heap.size 139 [.int .i64 la.tick,.int .i64 la.hash,.slice A2 n2 c2']∧Below w.heap.size w W) ⟨HW.out,XW,S3,BW.out⟩ ?_;clear bW XW S3 HW BW X2 b2 o2 b1 hla c0 c1 c2 c3 c4 c5 c6 c7 c8 c9 c10 H;generalize w2.heap.size=gs at *;rintro W ⟨HW,XW,SW,BW⟩;obtain ⟨c0,c1,c2,c3,c4,c5,c6,c7,c8,c9,c10⟩:=HW.words;have s0:W.cell? ⟨gs,0,none⟩=some (.int .i64 la.tick):=SW.cell 0;have hld:=qw7 (HW.r.below (Below.drew (Below.refl _ _))).inn;have hlo:=ve7 (HW.r.below (Below.drew (Below.refl _ _))).out;have x0:=XW.cell 0;have xl:=XW.lt;have xf0:=XW.frozen 0;have xf1:=XW.frozen 1;have xf2:=XW.frozen 2;have xf3:=XW.frozen 3;have xf4:=XW.frozen 4;have xf5:=XW.frozen 5;have gne:g≠w.heap.size:=HW.b.ne_ XW dcd;go_upto_region 4 with fail;refine wp_region_held_drew (S:=fun w' => Blk w' g 180 (engC e pace E)∧Blk w' gs 139 [.int .i64 la.tick,.int .i64 la.hash,.slice A2 n2 c2']) (by kernel_rfl) ⟨HW.b.drew,SW.drew⟩ (fun hHeld => ?_);refine tkS 0 ?_;refine tkS 1 ?_;refine tkS 2 ?_;refine tkS 3 ?_ (hy:=Or.inl ⟨by rfl,by (intro w hSw;(try dsimp only at hSw);obtain ⟨hX,hY⟩:=hSw;have z:w.cell? ⟨g,1,none⟩=some (.pointer (some ⟨e.gi,0,none⟩)):=hX.cell 1;go_simp;rfl)⟩);refine tkS 5 ?_;refine tkS 6 ?_;refine tkS 7 ?_;refine tkS 8 ?_ (hy:=Or.inl ⟨by rfl,by (intro w hSw;(try dsimp only at hSw);obtain ⟨hX,hY⟩:=hSw;have z:w.cell? ⟨g,2,none⟩=some (.pointer (some ⟨e.go,0,none⟩)):=hX.cell 2;go_simp;rfl)⟩);refine tkS 10 ?_;refine tkS 11 ?_;refine tkS 12 ?_;refine tkS 13 ?_ (hy:=Or.inl ⟨by rfl,by (intro w hSw;(try dsimp only at hSw);obtain ⟨hX,hY⟩:=hSw;have z:w.cell? ⟨g,6,none⟩=some (.int .i64 E.tick):=hX.cell 6;go_simp;rfl)⟩);refine tkS 14 ?_;refine tkS 15 ?_;refine tkS 16 ?_;refine tkS 17 ?_ (hy:=Or.inl ⟨by rfl,by (intro w hSw;(try dsimp only at hSw);obtain ⟨hX,hY⟩:=hSw;have z:w.cell? ⟨g,7,none⟩=some (.int .i64 E.passed):=hX.cell 7;go_simp;rfl)⟩);refine tkS 18 ?_;refine tkS 19 ?_;refine tkS 20 ?_;refine tkS 21 ?_ (hy:=Or.inl ⟨by rfl,by (intro w hSw;(try dsimp only at hSw);obtain ⟨hX,hY⟩:=hSw;have z:w.cell? ⟨g,8,none⟩=some (.int .i64 E.replayed):=hX.cell 8;go_simp;rfl)⟩);refine tkS 22 ?_;refine tkS 23 ?_ (hy:=Or.inl ⟨by rfl,by (intro w hSw;(try dsimp only at hSw);obtain ⟨hX,hY⟩:=hSw;have z:w.cell? ⟨gs,0,none⟩=some (.int .i64 la.tick):=hY.cell 0;go_simp;rfl)⟩);refine on1 4 (fun K hK => ?_);go_simp
  (go_at_call 119;(with_reducible refine (hld).mono ?_);rintro e' w3 ⟨rfl,rfl⟩)
  refine hK.out _ _ (⟨HW.b.drew,SW.drew⟩) (fun hHeld => ?_);clear hK K;refine nmz ?_;refine on1 9 (fun K hK => ?_);go_simp
  (go_at_call 120;(with_reducible refine (hlo).mono ?_);rintro e' w4 ⟨rfl,rfl⟩)
  refine hK.out _ _ (⟨HW.b.drew,SW.drew⟩) (fun hHeld => ?_);clear hK K;refine nmz ?_;refine tkS 24 ?_;refine on1 25 (fun K hK => ?_);rw [if_pos (by rfl)];refine wp_store_eqS 54 (.tmp 2) (.tmp 47) rfl w.heap.size 0 ([.int .i64 (E.nIn:Nat),.int .i64 (E.nOut:Nat),.int .i64 E.tick,.int .i64 E.passed,.int .i64 E.replayed,.int .i64 la.tick]).toArray rfl rfl (XW.drew.there 0 6 smp) (by kernel_rfl) (all_oneCell_toArray (by intro u hu;simp only [List.mem_cons,List.not_mem_nil,or_false] at hu;rcases hu with rfl | rfl | rfl | rfl | rfl | rfl <;> rfl)) ?_;intro S hS;have XS:Blk S w.heap.size 54 [.int .i64 (E.nIn:Nat),.int .i64 (E.nOut:Nat),.int .i64 E.tick,.int .i64 E.passed,.int .i64 E.replayed,.int .i64 la.tick]:=by rw [hS];exact Blk.setAllS XW.drew rfl
  have HS:Blk S g 180 (engC e pace E):=by rw [hS];exact Blk.setCellsFar gne _ _ _ HW.b.drew
  have SS:Blk S gs 139 [.int .i64 la.tick,.int .i64 la.hash,.slice A2 n2 c2']:=by rw [hS];exact Blk.setCellsFar hsn _ _ _ SW.drew
  have BS:Below w.heap.size w S:=by rw [hS];exact below_setCellsS (Below.drew BW) nlr _ _
  clear hS;refine hK.out _ _ (⟨HS,SS⟩) (fun hHeld => ?_);clear hK K;refine nmz ?_;refine wpAnyH_done (by decide +kernel) ?_ _;go_wp2_with fail;have x0:S.cell? ⟨w.heap.size,0,none⟩=some (.int .i64 (E.nIn:Nat)):=XS.cell 0;have x1:S.cell? ⟨w.heap.size,1,none⟩=some (.int .i64 (E.nOut:Nat)):=XS.cell 1;have x2:S.cell? ⟨w.heap.size,2,none⟩=some (.int .i64 E.tick):=XS.cell 2;have x3:S.cell? ⟨w.heap.size,3,none⟩=some (.int .i64 E.passed):=XS.cell 3;have x4:S.cell? ⟨w.heap.size,4,none⟩=some (.int .i64 E.replayed):=XS.cell 4;have x5:S.cell? ⟨w.heap.size,5,none⟩=some (.int .i64 la.tick):=XS.cell 5;refine bodyPost_ret (v:=.agg #[.int .i64 (E.nIn:Nat),.int .i64 (E.nOut:Nat),.int .i64 E.tick,.int .i64 E.passed,.int .i64 E.replayed,.int .i64 la.tick]) (by simp [results,Tryz.results29,go_sem ,x0,x1,x2,x3,x4,x5]) rfl ?_;exact ⟨rfl,BS⟩
end
structure Env (p:PV) (m:Nat) (pace:Int) (many:Nat):Prop where
  g:Prg p (qf5 p) m pace
  w:PrgW p m
  h13:13≤many
  lg:logN (many:Nat)=(m:Nat)
  big:11+m+m≤many
  pc:pace≤1024
structure StOn (w:World) (base:Nat) (q:qb9) (g:Nat) (p:PV) (m c:Nat) (pace:Int) (many:Nat) (calm:Bool) (rows:List (List Int)) (tick:Nat) (rep:Int):Prop where
  hs:base≤w.heap.size
  ex:∃ D E e,qa5 w base q D∧qi1 w base q g e m p (qf5 p:Nat) pace E∧EgOk m p E∧EgOn p (qf5 p) m c pace D E rows∧D.many=many∧(calm=true→D.cut=-1)∧E.tick=(tick:Int)∧E.replayed=rep
structure StOff (w:World) (base:Nat) (q:qb9) (g:Nat) (p:PV) (m c:Nat) (pace:Int) (many k:Nat) (all:List (List Int)) (ran:Int):Prop where
  hs:base≤w.heap.size
  ex:∃ D E e,qa5 w base q D∧qi1 w base q g e m p (qf5 p:Nat) pace E∧EgOk m p E∧E.off=true∧D.off=true∧D.many=many∧D.waits.length≤100000∧May D (Good p (qf5 p) m c pace k all ran)∧k≤E.nIn∧E.nOut≤E.nIn
structure StMay (w:World) (base:Nat) (q:qb9) (p:PV) (m c:Nat) (pace:Int) (many k:Nat) (all:List (List Int)) (ran:Int):Prop where
  hs:base≤w.heap.size
  ex:∃ D,qa5 w base q D∧D.many=many∧May D (Good p (qf5 p) m c pace k all ran)
structure qx0 (w:World) (base:Nat) (q:qb9) (p:PV) (m c:Nat) (pace:Int) (many:Nat) (calm:Bool) (k:Nat) (all:List (List Int)) (ran:Int):Prop where
  hs:base≤w.heap.size
  ex:∃ D N,qa5 w base q D∧Rest D N∧D.many=many∧(calm=true→D.cut=-1)∧Good p (qf5 p) m c pace k all ran N
section
variable {M:List TypeId} {w w':World} {base g m c many k tick:Nat} {q:qb9} {p:PV} {pace rep ran:Int} {calm:Bool} {rows all:List (List Int)} {x:PA}
theorem StOn.may (h:StOn w base q g p m c pace many calm rows tick rep):StMay w base q p m c pace many rows.length rows tick:=by
  obtain ⟨D,E,e,hd,hi,ok,on,hm,hc,ht,hr⟩:=h.ex;exact ⟨h.hs,D,hd,hm,by rw [← ht];exact on.may⟩
theorem StOn.below (h:StOn w base q g p m c pace many calm rows tick rep) (hb:Below w.heap.size w w'):StOn w' base q g p m c pace many calm rows tick rep:=by
  obtain ⟨D,E,e,hd,hi,ok,on,hm,hc,ht,hr⟩:=h.ex;exact ⟨Nat.le_trans h.hs hb.size,D,E,e,hd.below hb,hi.below hb,ok,on,hm,hc,ht,hr⟩
theorem qx0.below (h:qx0 w base q p m c pace many calm k all ran) (hb:Below w.heap.size w w'):qx0 w' base q p m c pace many calm k all ran:=by
  obtain ⟨D,N,hd,h2⟩:=h.ex;exact ⟨Nat.le_trans h.hs hb.size,D,N,hd.below hb,h2⟩
def SubR (w':World) (base:Nat) (q:qb9) (g:Nat) (p:PV) (m c:Nat) (pace:Int) (many:Nat) (calm:Bool) (rows:List (List Int)) (tick:Nat) (rep:Int) (l:List Int) (n z:Int):Prop :=
  (z=41∧n=0∧qh6 p.ins l=false∧StOn w' base q g p m c pace many calm rows tick rep) ∨
  (z=52∧n=0∧qh6 p.ins l=true∧rows.length=m∧StOn w' base q g p m c pace many calm rows tick rep) ∨
  (z=0∧n=(rows.length:Int)∧qh6 p.ins l=true∧rows.length<m∧StOn w' base q g p m c pace many calm (rows ++ [l]) tick rep) ∨
  (z=50∧n=0∧qh6 p.ins l=true∧rows.length<m∧calm=false∧StOff w' base q g p m c pace many rows.length (rows ++ [l]) tick)
theorem vs4 {D:qa1} (hc:calm=true→D.cut=-1) (h:D.cut≠-1):calm=false:=by
  cases calm with
  | false => rfl
  | true => exact absurd (hc rfl) h
theorem sub_okE {D:qa1} {E:EgV} {l:List Int} (ok:EgOk m p E):EgOk m p (subE m p D E l).2.1∧(subE m p D E l).1.many=D.many∧(subE m p D E l).1.waits.length≤D.waits.length+1∧(subE m p D E l).2.1.nOut=E.nOut∧E.nIn≤(subE m p D E l).2.1.nIn∧(subE m p D E l).2.1.replayed=E.replayed:=by
  unfold subE
  split
  · exact ⟨ok,rfl,by simp,rfl,Nat.le_refl _,rfl⟩
  obtain ⟨a1,a2,a3,a4⟩:=fAddV_few D 11 m 3 E.nIn p.ins l ok.i0;unfold subB;have:=ok.t1;refine ⟨EgOk.told (E:={ E with nIn:=(qn2 D 11 m 3 E.nIn p.ins l).2.1 }) ⟨a3,ok.o0,ok.t0,?_,ok.p0,ok.p1,ok.r0,ok.r1,ok.cf,ok.c64,ok.kl,ok.kn⟩ _,a1,a2,rfl,a4,rfl⟩
  show E.tick≤((qn2 D 11 m 3 E.nIn p.ins l).2.1:Int)
  omega
theorem t_submit (V:Env p m pace many) (h:StOn w base q g p m c pace many calm rows tick rep) (B:Option Addr) (n d:Nat) (l:List Int) (hl:RI w B n l) (hn:n≤maxLen) (hi:qz3 l) :
    Calls Tryz.prog 31 #[.pointer (some ⟨g,0,none⟩),.slice B n d] w fun e' w' => Step mutE base q w w'∧∃ v z,e'=.returned (.tuple #[.int .i64 v,.int .i64 z])∧SubR w' base q g p m c pace many calm rows tick rep l v z:=by
  have hs:=h.hs;obtain ⟨D,E,e,hd,hin,ok,on,hm,hc,ht,hr⟩:=h.ex;obtain ⟨f1,f2,f3,f4,f5,f6,f7,f8,f9,f10,f11⟩:=on.facts;have hm2:=V.g.m2;refine (submit_any hin ok V.w hd hs f8 (by rw [f7];simp) B n d l hl hn hi).mono fun e' w' ⟨h1,h2⟩ => ⟨h2.s,_,_,h1,?_⟩
  obtain ⟨o1,o2,o3,o4,o5,o6⟩:=sub_okE (D:=D) (l:=l) ok;have hun:qh6 p.ins l=false→(subE m p D E l).2.2=(0,41):=fun q => sub_unfit f1 q
  rcases on.sub V.g hi with ⟨x1,x2⟩ | ⟨x1,x2⟩ | ⟨x1,x2,x3,x4,x5,x6⟩ | ⟨x1,x2,x3,x4,x5⟩
  · left
    rw [x1] at h2;rw [x1];exact ⟨rfl,rfl,x2,Nat.le_trans hs h2.s.size,D,E,e,h2.d,h2.i,ok,on,hm,hc,ht,hr⟩
  · right;left
    have hf:qh6 p.ins l=true:=by
      cases hb:qh6 p.ins l with
      | true => rfl
      | false =>
        have:=hun hb;rw [x1] at this;simp at this
    rw [x1] at h2;rw [x1];exact ⟨rfl,rfl,hf,x2,Nat.le_trans hs h2.s.size,D,E,e,h2.d,h2.i,ok,on,hm,hc,ht,hr⟩
  · right;right;left
    have:=x3.facts;have hlen:=this.2.2.2.2.1;rw [List.length_append,List.length_singleton] at hlen;rw [x1];exact ⟨rfl,rfl,x2,omg,Nat.le_trans hs h2.s.size,_,_,e,h2.d,h2.i,o1,x3,x5.trans hm,fun q => x6 (hc q),x4.trans ht,o6.trans hr⟩
  · right;right;right
    obtain ⟨y1,y2,y3,y4⟩:=x4;rw [x1];exact ⟨rfl,rfl,x2,x3,vs4 hc y2,Nat.le_trans hs h2.s.size,_,_,e,h2.d,h2.i,o1,x5,y1,y3.trans hm,by rw [f7] at o3;simp at o3;omega,by rw [← ht];exact y4,omg,omg⟩
def RunR (w':World) (base:Nat) (q:qb9) (g:Nat) (p:PV) (m c:Nat) (pace:Int) (many:Nat) (calm:Bool) (rows:List (List Int)) (tick:Nat) (rep most:Int) (n z:Int):Prop :=
  (z=0∧n=min most ((rows.length:Int) - tick)∧StOn w' base q g p m (c+2000) pace many calm rows (tick+n.toNat) rep) ∨
  (z=50∧0≤n∧n≤min most ((rows.length:Int) - tick)∧calm=false∧StOff w' base q g p m (c+2000) pace many rows.length rows (tick+n))
theorem StOn.le (h:StOn w base q g p m c pace many calm rows tick rep):tick≤rows.length∧rows.length≤m∧0≤rep∧rep≤tick∧ql4 p.ins rows:=by
  obtain ⟨D,E,e,hd,hin,ok,on,hm,hc,ht,hr⟩:=h.ex;obtain ⟨f1,f2,f3,f4,f5,f6,f7,f8,f9,f10,f11⟩:=on.facts;have:=ok.r0;have:=ok.r1;exact ⟨omg,f5,omg,by omega,f9⟩
theorem t_run (V:Env p m pace many) (h:StOn w base q g p m c pace many calm rows tick rep) (most:Int) (hmo:0≤most) (hcb:c<7000000000000000000) :
    Calls Tryz.prog 33 #[.pointer (some ⟨g,0,none⟩),.int .i64 most] w fun e' w' => Step mutE base q w w'∧∃ n z,e'=.returned (.tuple #[.int .i64 n,.int .i64 z])∧RunR w' base q g p m c pace many calm rows tick rep most n z:=by
  have hs:=h.hs;obtain ⟨hle,_⟩:=h.le;obtain ⟨D,E,e,hd,hin,ok,on,hm,hc,ht,hr⟩:=h.ex;obtain ⟨f1,f2,f3,f4,f5,f6,f7,f8,f9,f10,f11⟩:=on.facts;have hm2:=V.g.m2;have hp:=runE_pub (D:=D) (hash:=(qf5 p:Nat)) (pace:=pace) V.w most ok;have hun:runE m p (qf5 p:Nat) pace most D E=runA (runK m p (qf5 p:Nat) pace most ((E.nIn:Int) - E.tick).toNat 0 D E):=by
    unfold runE;rw [if_neg (by rw [f1];simp),if_neg omg]
  have hc1:=run_on hin ok V.w hd hs f8 (by rw [f7];simp) most hmo f1;rw [← hun] at hc1;refine hc1.mono fun e' w' ⟨A,n,cc,h1,h2⟩ => ⟨h2.s,_,_,h1,?_⟩
  have hw:=hp.waits;rw [f7] at hw;simp at hw;rcases on.run V.g most hmo omg with ⟨x1,x2,x3,x4,x5,x6⟩ | ⟨x1,x2,x3,x4,x5⟩
  · left
    refine ⟨x1,by rw [x4,ht],Nat.le_trans hs h2.s.size,_,_,_,h2.d,h2.i,hp.ok,x2.more omg,x5.trans hm,fun q => x6 (hc q),?_,hp.rep.trans hr⟩;rw [x3,ht,x4];have h5:(0:Int)≤min most ((rows.length:Int) - E.tick):=omg
    push_cast
    rw [Int.toNat_of_nonneg h5]
  · right
    obtain ⟨y1,y2,y3,y4⟩:=x4;rw [ht] at x3 y4;exact ⟨x1,x2,x3,vs4 hc y2,Nat.le_trans hs h2.s.size,_,_,_,h2.d,h2.i,hp.ok,x5,y1,y3.trans hm,omg,y4.mono fun N g => g.mono omg,by rw [hp.nin];omega,by rw [hp.nin];exact hp.io omg⟩
theorem t_output (V:Env p m pace many) (h:StOn w base q g p m c pace many calm rows tick rep) (t:Nat) (ht0:t<tick) :
    Calls Tryz.prog 98 #[.pointer (some ⟨g,0,none⟩),.int .i64 (t:Nat)] w fun e' w' => ∃ B k d,e'=.returned (.tuple #[.slice B k d,.int .i64 0])∧Ow iv w' w.heap.size 3 B k d (qo4 p rows t)∧StOn w' base q g p m c pace many calm rows tick rep∧Step mutE base q w w':=by
  have hs:=h.hs;obtain ⟨D,E,e,hd,hin,ok,on,hm,hc,ht,hr⟩:=h.ex;obtain ⟨f1,f2,f3,f4,f5,f6,f7,f8,f9,f10,f11⟩:=on.facts;have hg:=on.output V.g (t:=t) omg;have h1:=output_any hin ok V.w hd hs f8 (t:Int);rw [hg] at h1;refine h1.mono fun e' w' ⟨B,k,d,h1,h2,h3⟩ => ⟨B,k,d,h1,h2,⟨Nat.le_trans hs h3.s.size,_,E,e,h3.d,h3.i,ok,on.ops _,hm,hc,ht,hr⟩,h3.s⟩
theorem EgOn.saved {D:qa1} {E:EgV} {H:Nat} (h:EgOn p H m c pace D E rows):0≤(qu5 E.k).tick∧(qu5 E.k).tick≤E.tick:=by
  obtain ⟨N,kS,s,n,last,is,h⟩:=h;have q:=h.mid;have h0:=q.t0;have hks:=q.ksle;have hat:=h.at_;rw [q.ek];unfold qu5 kOf;rcases Nat.eq_zero_or_pos n with z | z
  · subst z;simp [qr6];exact h0
  · obtain ⟨_,k1,k2⟩:=q.kc z;have hne:¬ n=0:=omg;simp only [hne,z,decide_true,if_true,if_false]
    first
      | exact ⟨k1,omg⟩
      | (simp [hne];exact ⟨k1,omg⟩)
theorem t_stat (h:StOn w base q g p m c pace many calm rows tick rep) :
    Calls Tryz.prog 29 #[.pointer (some ⟨g,0,none⟩)] w fun e' w' => ∃ pa sv,e'=.returned (.agg #[.int .i64 (rows.length:Nat),.int .i64 (tick:Nat),.int .i64 (tick:Nat),.int .i64 pa,.int .i64 rep,.int .i64 sv])∧0≤pa∧pa<pace∧pa≤tick∧0≤sv∧sv≤tick∧Below w.heap.size w w':=by
  obtain ⟨D,E,e,hd,hin,ok,on,hm,hc,ht,hr⟩:=h.ex;obtain ⟨f1,f2,f3,f4,f5,f6,f7,f8,f9,f10,f11⟩:=on.facts;obtain ⟨s1,s2⟩:=on.saved;have hp1:=ok.p1;refine (estat_any hin ok.kl).mono fun e' w' ⟨h1,h2⟩ => ⟨E.passed,(qu5 E.k).tick,?_,f11,f10,omg,s1,omg,h2⟩
  rw [h1,f2,hr,← ht,← f3]
theorem t_crash (h:StMay w base q p m c pace many k all ran) (B:Option Addr) (n d:Nat) (cs:List UInt8) (hl:RB w B n cs) (hB:0<n→∀ g,B.map (·.block)=some g→g<base) (hn:n≤maxLen) :
    Calls Tryz.prog 43 #[.pointer (some ⟨q.d,0,none⟩),.slice B n d] w fun e' w' => e'=.returned (.tuple #[])∧qx0 w' base q p m c pace many true k all ran∧Step mutE base q w w':=by
  have hs:=h.hs;obtain ⟨D,hd,hm,hmay⟩:=h.ex;obtain ⟨N,r1,r2,r3,r4⟩:=hmay.crash cs;exact (s_crash hd hs B n d cs hl hB hn).mono fun e' w' ⟨h1,h2,h3⟩ => ⟨h1,⟨Nat.le_trans hs h3.size,_,N,h2,r1,r4.trans hm,fun _ => r3,r2⟩,h3.dToE⟩
def OpenR (w':World) (base:Nat) (q:qb9) (g:Nat) (p:PV) (m c:Nat) (pace:Int) (many:Nat) (calm:Bool) (k:Nat) (all:List (List Int)) (ran:Int) (z:Int):Prop :=
  (z=0∧∃ (nx:Nat) (rep:Int),k≤nx∧nx≤all.length∧0≤rep∧rep≤pace+(nx:Int) - ran∧StOn w' base q g p m (c+2000) pace many calm (all.take nx) nx rep) ∨
  (z=50∧calm=false∧∃ k' nx:Nat,k≤k'∧k'≤nx∧nx≤all.length∧StMay w' base q p m (c+2000) pace many k' (all.take nx) ran)
theorem t_open (V:Env p m pace many) (h:qx0 w base q p m c pace many calm k all ran) (hx:qk8 w base x p) (hcb:c<7000000000000000000) :
    Calls Tryz.prog 25 #[.pointer (some ⟨q.d,0,none⟩),.agg #[.slice x.A1 x.n1 x.c1,.slice x.A2 x.n2 x.c2,.int .i64 p.regs,.slice x.A3 x.n3 x.c3,.slice x.A4 x.n4 x.c4],.int .i64 pace] w fun e' w' =>
      Step mutE base q w w'∧∃ g z,e'=.returned (.tuple #[.pointer (if z=0 then some ⟨g,0,none⟩ else none),.int .i64 z])∧OpenR w' base q g p m c pace many calm k all ran z:=by
  have hs:=h.hs;obtain ⟨D,N,hd,r,hm,hc,hg⟩:=h.ex;have hV:=V.big;refine (engopen_any hd hs hx V.w (by rw [hm];exact V.h13) (by rw [hm];exact V.lg) V.g.m1 (by rw [hm];exact hV) V.g.pc V.pc (by rw [r.waits];simp)).mono fun e' w' ⟨g,h2,h1⟩ => ⟨h2.2.1,g,_,h1,?_⟩
  rcases hg.opened V.g r (by rw [hm];omega) omg with ⟨x1,nx,x2,x3,x4,x5,x6,x7,x8,x9⟩ | ⟨x1,k',nx,x2,x3,x4,y1,y2,y3,y4⟩
  · left
    obtain ⟨e,he⟩:=h2.2.2 x1;exact ⟨x1,nx,_,x2,x3,x6,x7,Nat.le_trans hs h2.2.1.size,_,_,e,h2.1,he,openE_ok V.w x1,x4.more omg,x8.trans hm,fun q => x9 (hc q),x5,rfl⟩
  · right
    exact ⟨x1,vs4 hc y2,k',nx,x2,x3,x4,Nat.le_trans hs h2.2.1.size,_,h2.1,y3.trans hm,y4.mono fun N g => g.mono omg⟩
theorem t_format (V:Env p m pace many) {D:qa1} {N:Secs} (hd:qa5 w base q D) (hr:Rest D N) (hm:D.many=many) (hs:base≤w.heap.size) (hx:qg2 w x p) :
    Calls Tryz.prog 27 #[.pointer (some ⟨q.d,0,none⟩),.agg #[.slice x.A1 x.n1 x.c1,.slice x.A2 x.n2 x.c2,.int .i64 p.regs,.slice x.A3 x.n3 x.c3,.slice x.A4 x.n4 x.c4]] w fun e' w' => Step mutE base q w w'∧∃ z,e'=.returned (.int .i64 z) ∧
      ((z=0∧qx0 w' base q p m 0 pace many (decide (D.cut=-1)) 0 [] 0)∨(z=50∧D.cut≠-1∧∃ D',qa5 w' base q D'∧D'.many=many∧Safe D' anyP)):=by
  have hV:=V.big;refine (format_any (m:=m) hd hs hx V.w.hw V.w.hv (by rw [hm];exact V.h13) (by rw [hm];exact V.lg) (by rw [hm];exact hV) (by rw [hr.waits];simp)).mono fun e' w' ⟨h1,h2,h3⟩ => ⟨h3.dToE,_,h1,?_⟩
  obtain ⟨a1,a2⟩:=hr.formatted (M:=11+m+m) (H:=qf5 p) omg (by rw [hm];exact hV);rcases a2 with ⟨b1,⟨N',b2,b3,b4⟩,b5⟩ | ⟨b1,b2,b3,b4⟩
  · left
    exact ⟨b1,Nat.le_trans hs h3.size,_,N',h2,b2,a1.trans hm,fun q => b5 (of_decide_eq_true q),good_new V.g.pc b3 b4⟩
  · right
    exact ⟨b1,b3,_,h2,a1.trans hm,b4⟩
theorem vq4 {many:Nat} (h0:1≤many) (h1:many≤4096):Rest (newV many many) (fun s => qf1 (newV many many).now (s:Int)):=⟨(calm_new h0 h1).fit,rfl,fun _ _ => rfl⟩
theorem t_new {many:Nat} (w:World) (h0:1≤many) (h1:many≤4096):Calls Tryz.prog 28 #[.int .i64 (many:Nat),.int .i64 (many:Nat)] w fun e' w' => ∃ q,e'=.returned (.tuple #[.pointer (some ⟨q.d,0,none⟩),.int .i64 0])∧qa5 w' w.heap.size q (newV many many)∧Below w.heap.size w w' :=
  (new_ok many many w h0 h1 omg omg).mono fun e' w' ⟨q,h1,h2,h3⟩ => ⟨q,h1,⟨_,_,h2⟩,h3⟩
theorem Env.of {p:PV} {pace:Int} {many m:Nat} (hv:qf0 p=true) (hw:qk7 p) (h1:13≤many) (h2:many≤2059) (hm:m=(many - 11) / 2) (p1:1≤pace) (p2:pace≤1024):Env p m pace many:=by
  subst hm;refine ⟨⟨hv,hw,?_,omg,by omega,p1⟩,⟨hv,hw,omg⟩,h1,?_,omg,p2⟩
  · unfold qf5;omega
  · unfold logN;rw [if_neg omg,if_neg omg];omega
end
end Go.Proofs.YtmeebofhlilcmaaGreat
