/- Parts. -/
import Derived.Test.YtmeebofhlilcmaaGreatPr29
set_option linter.unusedVariables false
set_option linter.unusedSimpArgs false
set_option maxRecDepth 100000
set_option maxHeartbeats 0
namespace Go.Proofs.YtmeebofhlilcmaaGreat
variable {t:TypeId} {A:Option Addr} {size n:Nat}
open Go.RowKit
def RdEnd (w0 w:World)(gb go:Nat)(bs:List UInt8)(s:List Int × Nat × Nat):Prop:=Below w0.heap.size w0 w/\(s.2.2=0->RdSt w0 w gb go bs s.1 s.2.1)
theorem each_read (A:Option Addr)(n c gb go:Nat)(ts:List Int)(bs:List UInt8)(w0 w:World)(ht:RI w0 A n ts)(hn:n<=8)(h:RdSt w0 w gb go bs [] 0) :
 Ca 238 #[.slice A n c,.func (.func 239) #[] #[.pointer (some ⟨gb,0,none⟩),.pointer (some ⟨go,0,none⟩)]] w fun e w'=>e=.returned (I ((rowK ts bs n).2.2:Nat))/\RdEnd w0 w' gb go bs (rowK ts bs n):=by
 go_enter Tryz.func238,Tryz.ntmps238;go_wp2;go_loopw [10] (fun i wr=>∃ k:Nat,k<=n/\i=I (k:Nat)/\Hid ((rowK ts bs k).2.2=0)/\RdSt w0 wr gb go bs (rowK ts bs k).1 (rowK ts bs k).2.1) (fun i _=>n - (intOf i).toNat)
 case atStart=>exact⟨0,aS,rfl,rfl,h⟩
 case round=>
  obtain⟨k,hk,rfl,he,hst⟩:=hrel
  by_cases hlt:k<n
  · have hbad:∀ s',Hid (rowK ts bs (k+1)=s'->s'.2.2≠0->rowK ts bs n=s'):=fun s' e1 e2=>by
     rw[<- e1] at e2 ⊢;exact rdK_bad aS e2
    have hrd:Hid (rowK ts bs (k+1)=fR bs (ba ts k) (rowK ts bs k)):=rfl;have hinv:=(rdK_inv ts bs k).2.1;have ht':=ht.below hst.below aV;obtain⟨b,o,rfl,_,hc⟩:=ht'.at_ hlt;have hs:Hid (rowK ts bs k=((rowK ts bs k).1,(rowK ts bs k).2.1,0)):=Prod.ext rfl (Prod.ext rfl he.out);generalize (rowK ts bs k).1=out at *;generalize (rowK ts bs k).2.1=i at *;generalize rowK ts bs k=s at *;generalize hfin:rowK ts bs n=fin at *;generalize hnxt:rowK ts bs (k+1)=nxt at *;have Hfin:=aT hfin;have Hnxt:=aT hnxt;clear hfin hnxt;have hrd2:Hid (nxt=fR bs (ba ts k) (out,i,0)):=by show nxt=_;rw[<- hs.out];exact hrd.out
    by_cases h1:ba ts k=1
    · rw[h1] at hc hrd2;have hcall:=read1_int gb go bs out i w0 wr hst aS
      by_cases hz:zagE (bs.drop i)=0
      · have hn2:Hid (nxt=(out ++ [zagV (bs.drop i)],i+zagS (bs.drop i),0)):=by show nxt=_;rw[hrd2.out,mY hz]
        rw[hz] at hcall;clear hz h1 hrd hrd2 hbad hs;generalize zagV (bs.drop i)=v at *;generalize zagS (bs.drop i)=sz at *;go_wp2_with (go_at_call 239;go_call (hcall) as e w2 ⟨rfl,hst2⟩);go_roundw
        case rel=>exact⟨k+1,aS,by go_num,by show (rowK ts bs (k+1)).2.2=0;rw[Hnxt.out,hn2.out],by rw[Hnxt.out,hn2.out];exact hst2⟩
        case measure=>simp[intOf];omega
      · have hn2:Hid (fin=(out,i,zagE (bs.drop i))):=by
         show fin=_
         rw[(hbad nxt).out rfl (by rw[hrd2.out,mZ hz];exact hz),hrd2.out,mZ hz]
        have hb:(((zagE (bs.drop i):Nat):Int) != 0)=true:=by rw[af];omega
        have Hz:=aT hz;clear hz h1 hrd hrd2 hbad hs;generalize zagE (bs.drop i)=z at *;go_wp2_with (go_at_call 239;go_call (hcall) as e w2 ⟨rfl,hst2⟩);go_ret;exact⟨j5 (by rw[Hfin.out,hn2.out]),hst2.below,fun hx=>absurd (by rw[Hfin.out,hn2.out] at hx;exact hx) Hz.out⟩
    · by_cases h2:bs.length<=i
      · have hcall:=read1_end (ba ts k) gb go bs out i w0 wr hst h1 h2;have hn2:Hid (fin=(out,i,10)):=by
         show fin=_
         rw[(hbad nxt).out rfl (by rw[hrd2.out,m0 h1 h2];simp),hrd2.out,m0 h1 h2]
        clear h1 hrd hrd2 hbad hs;go_wp2_with (go_at_call 239;go_call (hcall) as e w2 ⟨rfl,rfl⟩);go_ret;exact⟨j5 (b:=(rowK ts bs n).2.2) (a:=10) (by rw[Hfin.out,hn2.out]),hst.below,fun hx=>absurd hx (by rw[Hfin.out,hn2.out];simp)⟩
      · by_cases h3:1<bC bs i
        · have hcall:=read1_form (ba ts k) gb go bs out i w0 wr hst h1 aS h3;have hn2:Hid (fin=(out,i,11)):=by
           show fin=_
           rw[(hbad nxt).out rfl (by rw[hrd2.out,m9 h1 aS h3];simp),hrd2.out,m9 h1 aS h3]
          clear h1 hrd hrd2 hbad hs;go_wp2_with (go_at_call 239;go_call (hcall) as e w2 ⟨rfl,rfl⟩);go_ret;exact⟨j5 (b:=(rowK ts bs n).2.2) (a:=11) (by rw[Hfin.out,hn2.out]),hst.below,fun hx=>absurd hx (by rw[Hfin.out,hn2.out];simp)⟩
        · have hcall:=read1_bool (ba ts k) gb go bs out i w0 wr hst aS h1 aS aS;have hn2:Hid (nxt=(out ++ [(bC bs i:Int)],i+1,0)):=by show nxt=_;rw[hrd2.out,ne h1 aS aS]
          clear h1 hrd hrd2 hbad hs;generalize bC bs i=y at *;go_wp2_with (go_at_call 239;go_call (hcall) as e w2 ⟨rfl,hst2⟩);go_roundw
          case rel=>exact⟨k+1,aS,by go_num,by show (rowK ts bs (k+1)).2.2=0;rw[Hnxt.out,hn2.out],by rw[Hnxt.out,hn2.out];exact hst2⟩
          case measure=>simp[intOf];omega
  · have hkn:k=n:=aS;subst hkn;go_wp2;go_ret;exact⟨j5 (b:=(rowK ts bs k).2.2) (a:=0) (by rw[he.out]),hst.below,fun _=>hst⟩
def kB (w:World)(r:List Int × Nat)(e:Ending)(w':World):Prop:=∃ A n c,e=.returned (.tuple #[.slice A n c,I (r.2:Nat)])/\Ow iv w' w.heap.size 3 A n c r.1/\Below w.heap.size w w'
theorem kB.bad {w w':World}{r:List Int × Nat}(z:Int)(h1:r.1=[])(h2:z=(r.2:Nat))(hb:Below w.heap.size w w'):kB w r (.returned (.tuple #[.slice none 0 0,I z])) w' :=
 ⟨none,0,0,by rw[h2],by rw[h1];exact Ow.nil _ _ _ _,hb⟩
theorem read_row (A B:Option Addr)(n m c d:Nat)(ts:List Int)(bs:List UInt8)(w:World)(ht:RI w A n ts)(hl:RB w B m bs)(hn:n<=maxLen)(hm:m<=d)(hd:d<=maxLen) :
 Ca 165 #[.slice A n c,.slice B m d] w (kB w (eK ts bs)):=by
 have hright:=fun w hl=>jt A n c ts w hl hn
 have hlen:=ht.1;generalize hr:eK ts bs=r;unfold eK at hr
 cases hri:db ts with
 | false=>
   rw[hri] at hright;rw[if_pos hri] at hr;subst hr;clear hri hlen;go_enter Tryz.func165,Tryz.ntmps165;go_wp2_with (go_at_call 150;go_call (hright _ (ht.below ((Below.refl _ _).alloc aV _) aV)) as e w' ⟨rfl,rfl⟩);go_ret2;exact kB.bad 2 rfl rfl be
 | true=>
   have h8:=(fD.1 hri).2.2;rw[hri] at hright;rw[if_neg (by simp[hri])] at hr;rw[hlen] at hr h8;have heach:=fun w1 h=>each_read A n c w.heap.size (w.heap.size+1) ts bs w w1 ht h8 h
   have hst:∀ w1,Blk w1 w.heap.size 27 [.slice B m d]->Blk w1 (w.heap.size+1) 22 [.slice none 0 0]->Below w.heap.size w w1->RdSt w w1 w.heap.size (w.heap.size+1) bs [] 0 :=
    fun w1 h1 h2 h3=>⟨h3,Nat.le_refl _,aS,⟨B,m,d,h1,by simpa using hl,hm,hd⟩,none,0,0,h2,Ow.nil _ _ _ _⟩
   have hi:=(rdK_inv ts bs n).1;generalize rowK ts bs n=s at *;obtain⟨out,i,z⟩:=s;have Hr:=aT hr;clear hr hri hlen;simp only at hi
   by_cases hz:z=0
   · subst hz;have heach2:∀ w1,RdSt w w1 w.heap.size (w.heap.size+1) bs [] 0->Ca 238 #[.slice A n c,.func (.func 239) #[] #[.pointer (some ⟨w.heap.size,0,none⟩),.pointer (some ⟨w.heap.size+1,0,none⟩)]] w1 fun e w'=>
      e=.returned (I 0)/\RdSt w w' w.heap.size (w.heap.size+1) bs out i:=fun w1 h=>(heach w1 h).mono fun e w' ⟨h1,h2⟩=>⟨h1,h2.2 rfl⟩
     clear heach
     by_cases hlt:i<bs.length
     · have hr2:Hid (r=([],12)):=by show r=_;rw[<- Hr.out];simp[hlt]
       go_enter Tryz.func165,Tryz.ntmps165;go_wp2_with (first | (go_at_call 150;go_call (hright _ (ht.below ((Below.refl _ _).alloc aV _) aV)) as e w' ⟨rfl,rfl⟩) | ((go_at_call 238;go_call (heach2 _ (hst _ bx bx be)) as e w2 ⟨rfl,hst2⟩);obtain⟨hb2,_,_,⟨A3,n3,c3,hk3,hrb3,hn3,hc3⟩,A4,n4,c4,hk4,hown4⟩:=hst2;have hl3:=hrb3.1;rw[aG] at hl3;have h03:(0:Int)<(n3:Int):=aS;clear hl3;have k3:=hk3.c0;have k4:=hk4.c0;clear hk3 hk4));go_ret2;exact kB.bad 12 (by rw[hr2.out]) (by rw[hr2.out];rfl) hb2
     · have hr2:Hid (r=(out,0)):=by show r=_;rw[<- Hr.out];simp[hlt]
       go_enter Tryz.func165,Tryz.ntmps165;go_wp2_with (first | (go_at_call 150;go_call (hright _ (ht.below ((Below.refl _ _).alloc aV _) aV)) as e w' ⟨rfl,rfl⟩) | ((go_at_call 238;go_call (heach2 _ (hst _ bx bx be)) as e w2 ⟨rfl,hst2⟩);obtain⟨hb2,_,_,⟨A3,n3,c3,hk3,hrb3,hn3,hc3⟩,A4,n4,c4,hk4,hown4⟩:=hst2;have hl3:=hrb3.1;rw[aG] at hl3;have h03:n3=0:=aS;subst h03;clear hl3;have k3:=hk3.c0;have k4:=hk4.c0;clear hk3 hk4));go_ret2;exact⟨A4,n4,c4,by rw[hr2.out];rfl,by rw[hr2.out];exact hown4,hb2⟩
   · have hr2:Hid (r=([],z)):=by show r=_;rw[<- Hr.out];simp[hz]
     have hb:(((z:Nat):Int) != 0)=true:=by rw[af];omega
     have hb3:(((z:Nat):Int) == 0)=false:=by rw[ae];omega
     clear hz;go_enter Tryz.func165,Tryz.ntmps165;go_wp2_with (first | (go_at_call 150;go_call (hright _ (ht.below ((Below.refl _ _).alloc aV _) aV)) as e w' ⟨rfl,rfl⟩) | ((go_at_call 238;go_call (heach _ (hst _ bx bx be)) as e w2 ⟨rfl,hst2⟩);have hb2:=hst2.1));go_ret2;exact kB.bad _ (by rw[hr2.out]) (by rw[hr2.out]) hb2
def dx (w:World)(base:Nat)(A:Option Addr)(n:Nat)(l:List Int):Prop:=RI w A n l/\n<=maxLen/\(0<n->fU w base 3 A)
section
variable {M:List TypeId} {w w':World} {base n:Nat} {p:bJ} {D:aY} {A:Option Addr} {l:List Int}
theorem dx.step (H:dx w base A n l)(hd:br w base p D)(k:Step M base p w w')(ht:3 ∉ 4 :: M):dx w' base A n l :=
 ⟨⟨H.1.1,H.1.2.stepR H.2.2 hd k ht⟩,H.2.1,fun h0=>(H.2.2 h0).step hd k ht⟩
theorem dx.below (H:dx w base A n l)(hb:Below w.heap.size w w'):dx w' base A n l :=
 ⟨H.1.below hb aV,H.2.1,fun h0 g hg=>by
  rcases H.2.2 h0 g hg with q | ⟨cs,q⟩
  · exact .inl q
  · exact .inr ⟨cs,q.below hb q.lt⟩⟩
theorem dx.of_ow {b c:Nat}(H:Ow iv w b 3 A n c l):dx w base A n l :=
 ⟨H.rd.ri,by have:=H.cap;omega,fun _ g hg=>.inr (H.blk hg)⟩
theorem dx.ri (H:dx w base A n l):RI w A n l:=H.1
theorem dx.len (H:dx w base A n l):n<=maxLen:=H.2.1
theorem dx.nil (w:World)(base:Nat):dx w base none 0 []:=⟨⟨rfl,Row.nil _ _ _⟩,by unfold maxLen;omega,fun h=>absurd h aS⟩
end
def da (t:TypeId)(w:World)(base g ga:Nat)(kind:Int)(next:Nat)(ts:List Int):Prop :=
 ∃ gj A n c,Blk w g t [.pointer (some ⟨gj,0,none⟩),.slice A n c]/\base<=gj/\dh w gj ga kind next/\dx w base A n ts
section
variable {M:List TypeId} {t:TypeId} {w w':World} {base g ga next:Nat} {kind:Int} {ts:List Int} {p:bJ} {D:aY}
theorem da.step (H:da t w base g ga kind next ts)(hd:br w base p D)(k:Step M base p w w')(h1:t ∉ 4 :: M)(h2:363 ∉ 4 :: M)(h3:3 ∉ 4 :: M):da t w' base g ga kind next ts:=by
 obtain⟨gj,A,n,c,hb,hg,hj,hi⟩:=H;exact⟨gj,A,n,c,hd.blk hb k.tch h1,hg,hd.blk hj k.tch h2,hi.step hd k h3⟩
theorem da.below (H:da t w base g ga kind next ts)(hb:Below w.heap.size w w'):da t w' base g ga kind next ts:=by
 obtain⟨gj,A,n,c,hx,hg,hj,hi⟩:=H;exact⟨gj,A,n,c,hx.below hb hx.lt,hg,hj.below hb,hi.below hb⟩
end
structure et (w:World)(base:Nat)(x:PA)(p:PV):Prop where
 rd:bZ w x p
 s1:0<x.n1->fU w base 3 x.A1
 s2:0<x.n2->fU w base 3 x.A2
 s3:0<x.n3->fU w base 187 x.A3
 s4:0<x.n4->fU w base 144 x.A4
section
variable {M:List TypeId} {w w' w0:World} {base:Nat} {q:bJ} {D:aY} {x:PA} {p:PV}
theorem fU.below (h:fU w base t A)(hb:Below w.heap.size w w'):fU w' base t A:=fun g hg=>by
 rcases h g hg with e | ⟨cs,e⟩
 · exact .inl e
 · exact .inr ⟨cs,e.below hb e.lt⟩
theorem RdS.stepR {α:Type}{enc:α->List Value}{l:List α}(h:RdS size enc w A n l)(h0:0<size)(hr:0<n->fU w base t A)(hd:br w base q D)(k:Step M base q w w')(ht:t ∉ 4 :: M):RdS size enc w' A n l :=
 ⟨h.1,h.2.1,h.2.2.stepR (fun e=>hr (by rcases aH n with z | z;· rw[z,Nat.zero_mul] at e;omega
                                       · exact z)) hd k ht⟩
theorem et.below (h:et w base x p)(hb:Below w.heap.size w w'):et w' base x p :=
 ⟨h.rd.below hb aV,fun e=>(h.s1 e).below hb,fun e=>(h.s2 e).below hb,fun e=>(h.s3 e).below hb,fun e=>(h.s4 e).below hb⟩
theorem et.step (h:et w base x p)(hd:br w base q D)(k:Step M base q w w')(h1:3 ∉ 4 :: M)(h3:187 ∉ 4 :: M)(h4:144 ∉ 4 :: M):et w' base x p :=
 ⟨⟨⟨h.rd.r1.1,h.rd.r1.2.stepR h.s1 hd k h1⟩,⟨h.rd.r2.1,h.rd.r2.2.stepR h.s2 hd k h1⟩,h.rd.r3.stepR aS h.s3 hd k h3,h.rd.r4.stepR aS h.s4 hd k h4,h.rd.k1,h.rd.k2,h.rd.k3,h.rd.k4⟩,
  fun e=>(h.s1 e).step hd k h1,fun e=>(h.s2 e).step hd k h1,fun e=>(h.s3 e).step hd k h3,fun e=>(h.s4 e).step hd k h4⟩
theorem mu {f:Nat->Value}(h:Row w0 A n f)(hs:w0.heap.size<=base)(h0:0<n):fU w base t A:=fun g hg=>by
 obtain⟨b,o,e,hb,_⟩:=h h0;rw[e] at hg;simp only[Option.map_some,Option.some.injEq] at hg;exact .inl aS
theorem et.old (h:bZ w0 x p)(hb:Below w0.heap.size w0 w)(hs:w0.heap.size<=base):et w base x p :=
 ⟨h.below hb aV,fun e=>mu h.r1.2 hs e,fun e=>mu h.r2.2 hs e,fun e=>mu h.r3.2.2 hs aS,fun e=>mu h.r4.2.2 hs aS⟩
end
def machC (y:PA)(p:PV):List Value:=[.slice y.A1 y.n1 y.c1,.slice y.A2 y.n2 y.c2,I p.regs,.slice y.A3 y.n3 y.c3,.slice y.A4 y.n4 y.c4,.bool true]
structure gV (w:World)(base g:Nat)(y:PA)(p:PV):Prop where
 b:Blk w g 285 (machC y p)
 gb:base<=g
 pr:et w base y p
section
variable {w w':World} {base g:Nat} {y x:PA} {p:PV}
theorem gV.below (h:gV w base g y p)(hb:Below w.heap.size w w'):gV w' base g y p:=⟨h.b.below hb h.b.lt,h.gb,h.pr.below hb⟩
theorem mis_any (h:gV w base g y p):Ca 243 #[.pointer (some ⟨g,0,none⟩)] w fun e w'=>e=.returned (.bool true)/\w=w':=by
 have h5:=h.b.c5;have hl:=h.b.lt;clear h;go_enter Tryz.func243,Tryz.ntmps243;go_wp2;go_ret;exact⟨rfl,rfl⟩
end
theorem run_cut_max {P:Program}{e:TypeId}{z:Value}{bytes:Nat}(hE:dO P t e z size bytes)(A:Option Addr)(len cap n:Nat)(h:n<=cap)(W:World) :
 (Instr.slice t (.slice A len cap) none (some (I (n:Int))) (some (I (n:Int)))).run P W=.ok (.slice A n n) W:=by
 obtain⟨ht,⟨i,hi,_,hs,_⟩,_⟩:=hE;have hb:(0:Int)<=(n:Int)/\(n:Int)<=(cap:Int):=aS;simp[Instr.slice,run_underlying ht,Instr.sliceBounds,Instr.sliceBound,hb,sizeOf,typeInfo,hi,asIntOf,oA];intro hlt;omega
theorem OwS.blkC {α:Type}{enc:α->List Value}{w:World}{base c g:Nat}{e:TypeId}{l:List α}(h:OwS size enc w base e A n c l)(hg:A.map (·.block)=some g):∃ cs,Blk w g e cs:=by
 rcases h.2.2 with ⟨hv,_⟩ | ⟨g',cap,cur,hv,_,hh,_⟩
 · injection hv with hv;subst hv;cases hg
 · injection hv with hv;subst hv;simp only[Option.map_some,Option.some.injEq] at hg;subst hg;exact⟨cur.toList,by unfold Blk;rw[hh]⟩
structure jg (w W:World)(gb gm:Nat)(x:PA)(p:PV)(cs:List Value):Prop where
 x:Blk W gb 26 [.slice x.A1 x.n1 x.c1,.slice x.A2 x.n2 x.c2,I p.regs,.slice x.A3 x.n3 x.c3,.slice x.A4 x.n4 x.c4]
 m:Blk W gm 285 cs
 bel:Below w.heap.size w W
 gm:w.heap.size<=gm
section
variable {w W W':World} {gb gm:Nat} {x:PA} {p:PV} {cs:List Value}
theorem jg.below (h:jg w W gb gm x p cs)(hb:Below W.heap.size W W'):jg w W' gb gm x p cs:=⟨h.x.below hb h.x.lt,h.m.below hb h.m.lt,h.bel.trans (hb.mono h.bel.size),h.gm⟩
theorem jg.set (h:jg w W gb gm x p cs)(i:Nat)(u:Value):jg w (W.setCell ⟨gm,i,none⟩ u) gb gm x p (cs.set i u) :=
 ⟨h.x.far (p:=⟨gm,i,none⟩) (h.x.ne_ h.m aU) u,h.m.set_ i u,h.bel.setCell h.gm u,h.gm⟩
end
theorem vnew_yes {x:PA}{p:PV}(w:World)(h:bZ w x p)(hw:eN p)(hv:dG p=true) :
 Ca 106 #[.agg #[.slice x.A1 x.n1 x.c1,.slice x.A2 x.n2 x.c2,I p.regs,.slice x.A3 x.n3 x.c3,.slice x.A4 x.n4 x.c4]] w fun e w'=>∃ g y,e=.returned (.tuple #[.pointer (some ⟨g,0,none⟩),I 0])/\(∀ b,b<=w.heap.size->gV w' b g y p)/\Below w.heap.size w w':=by
 have hvr:=fun W h=>nU x p W h hw
 rw[hv] at hvr;have hm:=(jd hv).1;obtain⟨m1,m2,m3,m4,m5,m6,_,_⟩:=dP.1 hm;have l1:=(fD.1 m1).2.2;have l2:=(fD.1 m2).2.2;have n1:=h.r1.1;have n2:=h.r2.1;have n3:=h.r3.1;have n4:=h.r4.1;have e1:x.n1<=100000:=aS;have e2:x.n2<=100000:=aS;have e3:x.n3<=100000:=aS;have e4:x.n4<=100000:=aS;have H:=aT h;clear hv hw hm m1 m2 m3 m4 m5 m6 l1 l2 n1 n2 n3 n4 h;go_enter Tryz.func106,Tryz.ntmps106;go_upto_region 4 with (first | ((go_at_call 65;go_call (hvr _ (H.out.below be aV)) as e w1 ⟨rfl,hb1⟩);have X1:=Blk.below (w':=w1) (g:=w.heap.size) (t:=26) (cs:=[.slice x.A1 x.n1 x.c1,.slice x.A2 x.n2 x.c2,I p.regs,.slice x.A3 x.n3 x.c3,.slice x.A4 x.n4 x.c4]) (Blk.top _ rfl rfl) hb1 aZ;obtain⟨x10,x11,x12,x13,x14⟩:=blk5 X1;have lx1:=X1.lt;have B1:=bB (a:=w) (B:=w.heap.size) be hb1 aZ;have s1:=B1.size) | fail);have N1:jg w (w1.alloc (.cells #[.slice x.A1 x.n1 x.c1,.slice x.A2 x.n2 x.c2,I p.regs,.slice x.A3 x.n3 x.c3,.slice x.A4 x.n4 x.c4,.bool true] 285)) w.heap.size w1.heap.size x p (machC x p) :=
  ⟨X1.alloc _,Blk.top _ rfl rfl,B1.alloc s1 _,s1⟩
 generalize hgm:w1.heap.size=gm at N1;refine dH (fun W=>jg w W w.heap.size gm x p (machC x p)) N1 ?_;clear N1 hgm x10 x11 x12 x13 x14 X1 lx1 B1 s1 hb1 hvr;intro w2 N2;obtain⟨x0,x1,x2,x3,x4⟩:=blk5 N2.x;have xl:=N2.x.lt;have ml:=N2.m.lt;have m4:=N2.m.c4;have f4:=N2.m.frozen 4;have xm:=N2.x.ne_ N2.m aU;have hs2:=N2.bel.size;have bd2:Below w2.heap.size w2 w2.drew:=Below.drew (Below.refl _ _);have HN2:=aT (N2.below bd2);have ck4:=clone_code x.A4 x.n4 x.c4 p.code w2.drew (H.out.below (b:=w.heap.size) (N2.bel.trans (bd2.mono hs2)) aV).r4 e4;clear bd2 N2;go_region_held3 (fun w'=>w'.cell? ⟨w.heap.size,4,none⟩=some (.slice x.A4 x.n4 x.c4)) (first | go_keep | assumption) (first | ((go_at_call 196;go_call (ck4) as e w3 ⟨A3,c3,rfl,own3,hb3⟩);have hct3:=fun W=>run_cut_max (P:=Tryz.prog) elemInsC A3 x.n4 c3 x.n4 own3.cap.1 W;have N3:=HN2.out.below hb3;have y4:=N3.x.c4;have l3:=N3.m.lt;have k4:=N3.m.c4;have g4:=N3.m.frozen 4;have z4:=(cN w3 (p:=⟨gm,4,none⟩) (q:=⟨w.heap.size,4,none⟩) (.slice A3 x.n4 x.n4) cy).trans y4;have z5:(w3.setCell ⟨gm,4,none⟩ (.slice A3 x.n4 x.n4)).cell? ⟨w.heap.size,4,none⟩=some (.slice x.A4 x.n4 x.c4):=z4) | fail);have N4:=N3.set 4 (.slice A3 x.n4 x.n4);have O4:=own3.setFar N3.m aU 4 (.slice A3 x.n4 x.n4);have O4b:=O4.rebase (by simpa using hs2);have cp4:=own3.cap;go_upto_region 5 with fail;refine dH (fun W=>jg w W w.heap.size gm x p ((machC x p).set 4 (.slice A3 x.n4 x.n4))/\OwS 5 insE W w.heap.size 144 A3 x.n4 c3 p.code) ⟨N4,O4b⟩ ?_;clear N4 O4 O4b N3 own3 hct3 y4 l3 k4 g4 z4 z5 ck4 HN2 x0 x1 x2 x3 x4 xl ml m4 f4 hb3 hs2;intro w5 O5;obtain⟨N5,own5⟩:=O5;obtain⟨x0,x1,x2,x3,x4⟩:=blk5 N5.x;have xl:=N5.x.lt;have ml:=N5.m.lt;have hs5:=N5.bel.size;have bd5:Below w5.heap.size w5 w5.drew:=Below.drew (Below.refl _ _);have HN5:=aT (N5.below bd5);have HO5:=aT (own5.below bd5 aV);have ck3:=clone_cells x.A3 x.n3 x.c3 p.cells w5.drew (H.out.below (b:=w.heap.size) (N5.bel.trans (bd5.mono hs5)) aV).r3 e3;have ck1:=fun (W:World) (hb:Below w.heap.size w W)=>jV x.A1 x.n1 x.c1 p.ins W (H.out.below (b:=w.heap.size) hb aV).r1 e1
 have ck2:=fun (W:World) (hb:Below w.heap.size w W)=>jV x.A2 x.n2 x.c2 p.outs W (H.out.below (b:=w.heap.size) hb aV).r2 e2
 clear bd5 N5 own5;go_region_held3 (fun w'=>w'.cell? ⟨w.heap.size,3,none⟩=some (.slice x.A3 x.n3 x.c3)/\w'.cell? ⟨w.heap.size,0,none⟩=some (.slice x.A1 x.n1 x.c1)/\w'.cell? ⟨w.heap.size,1,none⟩=some (.slice x.A2 x.n2 x.c2)) (first | go_keep | (refine⟨?_,?_,?_⟩ <;> assumption)) (first | ((go_at_call 197;go_call (ck3) as e w6 ⟨B3,d3,rfl,own6,hb6⟩);have N6:=HN5.out.below hb6;have R6:=aT (HO5.out.below hb6 aV);have y63:=N6.x.c3;have y60:=N6.x.c0;have y61:=N6.x.c1;have ck1':=ck1 w6 N6.bel) | ((go_at_call 145;(with_reducible refine (ck1').mono ?_);rintro e w7 ⟨B1,d1,rfl,own7,hb7⟩);have N7:=N6.below hb7;have R7:=aT (R6.out.below hb7 aV);have C7:=aT (own6.below hb7 aV);have y73:=N7.x.c3;have y70:=N7.x.c0;have y71:=N7.x.c1;have ck2':=ck2 w7 N7.bel;clear ck1') | ((go_at_call 145;(with_reducible refine (ck2').mono ?_);rintro e w8 ⟨B2,d2,rfl,own8,hb8⟩);have N8:=N7.below hb8;have R8:=aT (R7.out.below hb8 aV);have C8:=aT (C7.out.below hb8 aV);have I8:=aT (own7.below hb8 aV);have y83:=N8.x.c3;have y80:=N8.x.c0;have y81:=N8.x.c1;have ml8:=N8.m.lt;have P1:=N8.set 3 (.slice B3 x.n3 d3);have P2:=P1.set 0 (.slice B1 x.n1 d1);have P3:=P2.set 1 (.slice B2 x.n2 d2);have k83:=N8.m.c3;have f83:=N8.m.frozen 3;have k80:=N8.m.c0;have f80:=N8.m.frozen 0;have k81:=N8.m.c1;have f81:=N8.m.frozen 1;have sP13:=P1.x.c3;have sP10:=P1.x.c0;have sP11:=P1.x.c1;have sP23:=P2.x.c3;have sP20:=P2.x.c0;have sP21:=P2.x.c1;have sP33:=P3.x.c3;have sP30:=P3.x.c0;have sP31:=P3.x.c1;have kP10:=P1.m.c0;have fP10:=P1.m.frozen 0;have kP11:=P1.m.c1;have fP11:=P1.m.frozen 1;have kP21:=P2.m.c1;have fP21:=P2.m.frozen 1) | fail);have q1:=((I8.out.setFar N8.m aU 3 (.slice B3 x.n3 d3)).setFar P1.m aU 0 (.slice B1 x.n1 d1)).setFar P2.m aU 1 (.slice B2 x.n2 d2);have q2:=((own8.setFar N8.m aU 3 (.slice B3 x.n3 d3)).setFar P1.m aU 0 (.slice B1 x.n1 d1)).setFar P2.m aU 1 (.slice B2 x.n2 d2);have q3:=((C8.out.setFar N8.m aU 3 (.slice B3 x.n3 d3)).setFar P1.m aU 0 (.slice B1 x.n1 d1)).setFar P2.m aU 1 (.slice B2 x.n2 d2);have q4:=((R8.out.setFar N8.m aU 3 (.slice B3 x.n3 d3)).setFar P1.m aU 0 (.slice B1 x.n1 d1)).setFar P2.m aU 1 (.slice B2 x.n2 d2);have Q1:=aT q1;have Q2:=aT q2;have Q3:=aT q3;have Q4:=aT q4;have F3:=aT P3;clear q1 q2 q3 q4 P1 P2 P3 N8 N7 N6 own8 own7 own6;go_wp2_with fail;go_ret2;have hb3':=F3.out.bel;refine⟨gm,⟨B1,x.n1,d1,B2,x.n2,d2,B3,x.n3,d3,A3,x.n4,x.n4⟩,rfl,fun b hbl=>⟨F3.out.m,aj hbl F3.out.gm,⟨⟨Q1.out.rd.ri,Q2.out.rd.ri,Q3.out.rd,Q4.out.rd,Q1.out.cap,Q2.out.cap,Q3.out.cap,⟨Nat.le_refl _,by show x.n4<=maxLen;unfold maxLen;omega⟩⟩,fun _ g hg=>.inr (eI Q1.out hg),fun _ g hg=>.inr (eI Q2.out hg),fun _ g hg=>.inr (Q3.out.blkC hg),fun _ g hg=>.inr (Q4.out.blkC hg)⟩⟩,hb3'⟩
section
variable {w w':World} {base g:Nat} {y x:PA} {p:PV}
theorem pD {p:PV}{k:Nat}{x:Int × Int}(h:p.cells[k]?=some x):(es p).take k ++ [x.2]=(es p).take (k+1):=by
 rw[List.take_add_one];unfold es;rw[List.getElem?_map,h]
 rfl
theorem mfirst_any (h:gV w base g y p)(hn3:p.cells.length<=100000):Ca 169 #[.pointer (some ⟨g,0,none⟩)] w fun e w'=>∃ A c,e=.returned (.slice A y.n3 c)/\Ow iv w' w.heap.size 3 A y.n3 c (es p)/\Below w.heap.size w w':=by
 have his:=mis_any h;have c3:=h.b.c3;have r3:=h.pr.rd.r3;have hlen:=r3.1;have M3:y.n3<=1000000000000:=aS;clear h hn3;go_enter Tryz.func169,Tryz.ntmps169;go_wp2_with (first | (go_at_call 243;go_call (his) as e w1 ⟨rfl,rfl⟩) | fail);go_loopw [3,15] (fun v i wr=>∃ (k:Nat) (A:Option Addr) (c:Nat),k<=y.n3/\i=I (k:Nat)/\v=.slice A k c/\Ow iv wr w.heap.size 3 A k c ((es p).take k)/\Below w.heap.size w wr) (fun _ i _=>y.n3 - (intOf i).toNat)
 case atStart=>exact⟨0,none,0,aS,rfl,rfl,Ow.nil _ _ _ _,Below.refl _ _⟩
 case round=>
  obtain⟨k,A,c,hk,rfl,rfl,hown,hb⟩:=hrel;have hbs:=hb.size
  by_cases hlt:k<y.n3
  · obtain⟨b,o,x,hA,hbl,hx,hc⟩:=(r3.below hb aV).at_ gR aS hlt;have e0:wr.cell? ⟨b,o+k * 2,none⟩=some (I x.1):=hc 0 aS;have e1:wr.cell? ⟨b,o+k * 2+1,none⟩=some (I x.2):=hc 1 aS;have hL:=aT (pD (p:=p) hx);have hA3:=hA;clear hc hx r3;rw[hA];obtain⟨t,f⟩:=x;simp only at e0 e1 hL;go_wp2_with (first | (at_builtin;refine dF rfl rfl dV eS (s:=.tmp 19) (N:=k+1) (L:=(es p).take (k+1)) rfl (hown.below (b:=wr.heap.size) be aZ) rfl (k:=[f]) (Rd.of_block (l:=[f]) (dy _ _ bj) rfl) rfl (hL.out) bO aS aZ ?_;intro A5 c5 w5 hown5 hg5 hat5 hb5) | fail);replace hb5:=bB (a:=w) (B:=w.heap.size) be hb5 aZ;have hb5s:=hb5.size;go_roundw
    case rel=>exact⟨k+1,A5,c5,aS,by go_num,rfl,hown5,hb5⟩
    case measure=>simp[intOf];omega
  · have hkn:k=y.n3:=aS;subst hkn;have hge:((es p).take y.n3)=es p:=au (by unfold es;rw[ay];omega);rw[hge] at hown;have HO:=aT hown;clear hown hge;go_wp2;go_ret;exact⟨A,c,rfl,HO.out,hb⟩
theorem mfits_any (h:gV w base g y p)(B:Option Addr)(n d:Nat)(l:List Int)(hl:RI w B n l)(hn:n<=maxLen):Ca 244 #[.pointer (some ⟨g,0,none⟩),.slice B n d] w fun e w'=>e=.returned (.bool (gu p l))/\Below w.heap.size w w':=by
 have his:=mis_any h;have hI:=@ia p l;generalize gu p l=z at *;have c3:=h.b.c3;have r3:=h.pr.rd.r3;have k3:=h.pr.rd.k3;rw[r3.1,hl.1] at hI;have HI:=aT hI;have M3:y.n3<=9223372036854775807:=by unfold maxLen at k3;omega
 have hmm:n<=9223372036854775807:=by unfold maxLen at hn;omega
 clear k3 h hI hn
 by_cases he:n=y.n3
 · subst he;have f3:(((y.n3:Nat):Int) != (y.n3:Int))=false:=by simp
   have HZ:Hid (z=true ↔ ∀ i,i<y.n3->okAt (cJ p.cells i).1 (ba l i)=true):=by
    show _ ↔ _
    constructor
    · intro h;exact (HI.out.1 h).2
    · intro h;exact HI.out.2 ⟨rfl,h⟩
   clear HI;go_enter Tryz.func244,Tryz.ntmps244;go_wp2_with (first | (go_at_call 243;go_call (his) as e w1 ⟨rfl,rfl⟩) | fail);go_loopw [27] (fun i wr=>∃ k:Nat,k<=y.n3/\i=I (k:Nat)/\Hid (∀ i,i<k->okAt (cJ p.cells i).1 (ba l i)=true)/\Below w.heap.size w wr) (fun i _=>y.n3 - (intOf i).toNat)
   case atStart=>exact⟨0,aS,rfl,fun i hi=>absurd hi aS,Below.refl _ _⟩
   case round=>
    obtain⟨k,hk,rfl,hall,hbel⟩:=hrel;have hbs:=hbel.size
    by_cases hlt:k<y.n3
    · have hne:¬ (y.n3:Int)<=(k:Int):=aS;obtain⟨b,o,x,hA,hb,hx,hc⟩:=(r3.below hbel aV).at_ gR aS hlt;have e0:wr.cell? ⟨b,o+k * 2,none⟩=some (I x.1):=hc 0 aS;have e1:wr.cell? ⟨b,o+k * 2+1,none⟩=some (I x.2):=hc 1 aS;obtain⟨b2,o2,rfl,hb2,hc2⟩:=(hl.below hbel aV).at_ hlt;have hxk:=aT (iT hx);clear hc hx r3 hl;rw[hA];obtain⟨t,f⟩:=x;simp only at e0 e1
      cases hvb:okAt t (ba l k) with
      | true=>
        have hall':Hid (∀ i,i<k+1->okAt (cJ p.cells i).1 (ba l i)=true):=fun i hi=>by
         rcases aw i k with h | h
         · exact hall.out i h
         · rw[show i=k from by omega,hxk.out];exact hvb
        have h12:=jr.1 hvb;clear hvb hall
        by_cases ht:t=2
        · have h12':=h12 ht;subst ht;clear h12;rcases h12' with h9 | h9
          all_goals
           rw[h9] at hc2;clear h9;go_wp2;go_roundw
           case rel=>exact⟨k+1,aS,by go_num,hall',be⟩
           case measure=>simp[intOf];omega
        · have bt:(t == 2)=false:=by rw[ae];exact ht
          clear ht h12;go_wp2;go_roundw
          case rel=>exact⟨k+1,aS,by go_num,hall',be⟩
          case measure=>simp[intOf];omega
      | false=>
        have hz:Hid (z=false):=by
         show z=false
         rw[Bool.eq_false_iff];intro hc;have h9:=HZ.out.1 hc k hlt;rw[hxk.out,hvb] at h9
         cases h9
        obtain⟨h5,h6,h7⟩:=lP.1 hvb;have b6:(ba l k != 0)=true:=by rw[af];exact h6
        have b7:(ba l k != 1)=true:=by rw[af];exact h7
        subst h5;clear hvb hall h6 h7;generalize ba l k=v at *;go_wp2;go_ret;exact⟨cV hz.out.symm,be⟩
    · have hkn:k=y.n3:=aS;subst hkn;have hge:((y.n3:Nat):Int)<=(y.n3:Int):=aS;have hz:Hid (z=true):=HZ.out.2 hall.out;clear HZ hall;go_wp2;go_ret;exact⟨cV hz.out.symm,hbel⟩
 · have f3:(((n:Nat):Int) != (y.n3:Int))=true:=by rw[af];omega
   have hz:Hid (z=false):=by
    show z=false
    rw[Bool.eq_false_iff];intro hc;exact he (HI.out.1 hc).1
   clear he HI;go_enter Tryz.func244,Tryz.ntmps244;go_wp2_with (first | (go_at_call 243;go_call (his) as e w1 ⟨rfl,rfl⟩) | fail);go_ret;exact⟨cV hz.out.symm,Below.refl _ _⟩
end
