/- Parts. -/
import Derived.Test.YtmeebofhlilcmaaGreatPr18
set_option linter.unusedVariables false
set_option linter.unusedSimpArgs false
set_option maxRecDepth 100000
set_option maxHeartbeats 0
namespace Go.Proofs.YtmeebofhlilcmaaGreat
variable {t:TypeId} {A:Option Addr} {size n:Nat}
open Go.RowKit
def RdEnd (w0 w:World)(gb go:Nat)(bs:List UInt8)(s:List Int × Nat × Nat):Prop:=Below w0.heap.size w0 w/\(s.2.2=0->RdSt w0 w gb go bs s.1 s.2.1)
theorem each_read (A:Option Addr)(n c gb go:Nat)(ts:List Int)(bs:List UInt8)(w0 w:World)(ht:RI w0 A n ts)(hn:n<=8)(h:RdSt w0 w gb go bs [] 0) :
 Ca 238 #[.slice A n c,.func (.func 239) #[] #[.pointer (some ⟨gb,0,none⟩),.pointer (some ⟨go,0,none⟩)]] w fun e w'=>e=.returned (I ((rowK ts bs n).2.2:Nat))/\RdEnd w0 w' gb go bs (rowK ts bs n):=by
 go_enter Tryz.func238,Tryz.ntmps238;go_wp2;go_loopw [10] (fun i wr=>∃ k:Nat,k<=n/\i=I (k:Nat)/\Hid ((rowK ts bs k).2.2=0)/\RdSt w0 wr gb go bs (rowK ts bs k).1 (rowK ts bs k).2.1) (fun i _=>n - (intOf i).toNat)
 case atStart=>exact⟨0,aS,rfl,rfl,h⟩
 case round=>
  obtain⟨k,hk,rfl,he,hst⟩:=hrel
  by_cases hlt:k<n
  · have hbad:∀ s',Hid (rowK ts bs (k+1)=s'->s'.2.2≠0->rowK ts bs n=s'):=fun s' e1 e2=>by
     rw[<- e1] at e2 ⊢;exact rdK_bad aS e2
    have hrd:Hid (rowK ts bs (k+1)=fM bs (bj ts k) (rowK ts bs k)):=rfl;have hinv:=(rdK_inv ts bs k).2.1;have ht':=ht.below hst.below aW;obtain⟨b,o,rfl,_,hc⟩:=ht'.at_ hlt;have hs:Hid (rowK ts bs k=((rowK ts bs k).1,(rowK ts bs k).2.1,0)):=Prod.ext rfl (Prod.ext rfl he.out);generalize (rowK ts bs k).1=out at *;generalize (rowK ts bs k).2.1=i at *;generalize rowK ts bs k=s at *;generalize hfin:rowK ts bs n=fin at *;generalize hnxt:rowK ts bs (k+1)=nxt at *;have Hfin:=aT hfin;have Hnxt:=aT hnxt;clear hfin hnxt;have hrd2:Hid (nxt=fM bs (bj ts k) (out,i,0)):=by show nxt=_;rw[<- hs.out];exact hrd.out
    by_cases h1:bj ts k=1
    · rw[h1] at hc hrd2;have hcall:=read1_int gb go bs out i w0 wr hst aS
      by_cases hz:zagE (bs.drop i)=0
      · have hn2:Hid (nxt=(out ++ [zagV (bs.drop i)],i+zagS (bs.drop i),0)):=by show nxt=_;rw[hrd2.out,nC hz]
        rw[hz] at hcall;clear hz h1 hrd hrd2 hbad hs;generalize zagV (bs.drop i)=v at *;generalize zagS (bs.drop i)=sz at *;go_wp2_with (go_at_call 239;go_call (hcall) as e w2 ⟨rfl,hst2⟩);go_roundw
        case rel=>exact⟨k+1,aS,by go_num,by show (rowK ts bs (k+1)).2.2=0;rw[Hnxt.out,hn2.out],by rw[Hnxt.out,hn2.out];exact hst2⟩
        case measure=>simp[intOf];omega
      · have hn2:Hid (fin=(out,i,zagE (bs.drop i))):=by
         show fin=_
         rw[(hbad nxt).out rfl (by rw[hrd2.out,nD hz];exact hz),hrd2.out,nD hz]
        have hb:(((zagE (bs.drop i):Nat):Int) != 0)=true:=by rw[ag];omega
        have Hz:=aT hz;clear hz h1 hrd hrd2 hbad hs;generalize zagE (bs.drop i)=z at *;go_wp2_with (go_at_call 239;go_call (hcall) as e w2 ⟨rfl,hst2⟩);go_ret;exact⟨kE (by rw[Hfin.out,hn2.out]),hst2.below,fun hx=>absurd (by rw[Hfin.out,hn2.out] at hx;exact hx) Hz.out⟩
    · by_cases h2:bs.length<=i
      · have hcall:=read1_end (bj ts k) gb go bs out i w0 wr hst h1 h2;have hn2:Hid (fin=(out,i,10)):=by
         show fin=_
         rw[(hbad nxt).out rfl (by rw[hrd2.out,nE h1 h2];simp),hrd2.out,nE h1 h2]
        clear h1 hrd hrd2 hbad hs;go_wp2_with (go_at_call 239;go_call (hcall) as e w2 ⟨rfl,rfl⟩);go_ret;exact⟨kE (b:=(rowK ts bs n).2.2) (a:=10) (by rw[Hfin.out,hn2.out]),hst.below,fun hx=>absurd hx (by rw[Hfin.out,hn2.out];simp)⟩
      · by_cases h3:1<bx bs i
        · have hcall:=read1_form (bj ts k) gb go bs out i w0 wr hst h1 aS h3;have hn2:Hid (fin=(out,i,11)):=by
           show fin=_
           rw[(hbad nxt).out rfl (by rw[hrd2.out,nF h1 aS h3];simp),hrd2.out,nF h1 aS h3]
          clear h1 hrd hrd2 hbad hs;go_wp2_with (go_at_call 239;go_call (hcall) as e w2 ⟨rfl,rfl⟩);go_ret;exact⟨kE (b:=(rowK ts bs n).2.2) (a:=11) (by rw[Hfin.out,hn2.out]),hst.below,fun hx=>absurd hx (by rw[Hfin.out,hn2.out];simp)⟩
        · have hcall:=read1_bool (bj ts k) gb go bs out i w0 wr hst aS h1 aS aS;have hn2:Hid (nxt=(out ++ [(bx bs i:Int)],i+1,0)):=by show nxt=_;rw[hrd2.out,nG h1 aS aS]
          clear h1 hrd hrd2 hbad hs;generalize bx bs i=y at *;go_wp2_with (go_at_call 239;go_call (hcall) as e w2 ⟨rfl,hst2⟩);go_roundw
          case rel=>exact⟨k+1,aS,by go_num,by show (rowK ts bs (k+1)).2.2=0;rw[Hnxt.out,hn2.out],by rw[Hnxt.out,hn2.out];exact hst2⟩
          case measure=>simp[intOf];omega
  · have hkn:k=n:=aS;subst hkn;go_wp2;go_ret;exact⟨kE (b:=(rowK ts bs k).2.2) (a:=0) (by rw[he.out]),hst.below,fun _=>hst⟩
def kW (w:World)(r:List Int × Nat)(e:Ending)(w':World):Prop:=∃ A n c,e=.returned (.tuple #[.slice A n c,I (r.2:Nat)])/\Ow iv w' w.heap.size 3 A n c r.1/\Below w.heap.size w w'
theorem kW.bad {w w':World}{r:List Int × Nat}(z:Int)(h1:r.1=[])(h2:z=(r.2:Nat))(hb:Below w.heap.size w w'):kW w r (.returned (.tuple #[.slice none 0 0,I z])) w' :=
 ⟨none,0,0,by rw[h2],by rw[h1];exact Ow.nil _ _ _ _,hb⟩
theorem read_row (A B:Option Addr)(n m c d:Nat)(ts:List Int)(bs:List UInt8)(w:World)(ht:RI w A n ts)(hl:RB w B m bs)(hn:n<=maxLen)(hm:m<=d)(hd:d<=maxLen) :
 Ca 165 #[.slice A n c,.slice B m d] w (kW w (eK ts bs)):=by
 have hright:=fun w hl=>jE A n c ts w hl hn
 have hlen:=ht.1;generalize hr:eK ts bs=r;unfold eK at hr
 cases hri:da ts with
 | false=>
   rw[hri] at hright;rw[if_pos hri] at hr;subst hr;clear hri hlen;go_enter Tryz.func165,Tryz.ntmps165;go_wp2_with (go_at_call 150;go_call (hright _ (ht.below ((Below.refl _ _).alloc aW _) aW)) as e w' ⟨rfl,rfl⟩);go_ret2;exact kW.bad 2 rfl rfl bc
 | true=>
   have h8:=(fG.1 hri).2.2;rw[hri] at hright;rw[if_neg (by simp[hri])] at hr;rw[hlen] at hr h8;have heach:=fun w1 h=>each_read A n c w.heap.size (w.heap.size+1) ts bs w w1 ht h8 h
   have hst:∀ w1,Blk w1 w.heap.size 27 [.slice B m d]->Blk w1 (w.heap.size+1) 22 [.slice none 0 0]->Below w.heap.size w w1->RdSt w w1 w.heap.size (w.heap.size+1) bs [] 0 :=
    fun w1 h1 h2 h3=>⟨h3,Nat.le_refl _,aS,⟨B,m,d,h1,by simpa using hl,hm,hd⟩,none,0,0,h2,Ow.nil _ _ _ _⟩
   have hi:=(rdK_inv ts bs n).1;generalize rowK ts bs n=s at *;obtain⟨out,i,z⟩:=s;have Hr:=aT hr;clear hr hri hlen;simp only at hi
   by_cases hz:z=0
   · subst hz;have heach2:∀ w1,RdSt w w1 w.heap.size (w.heap.size+1) bs [] 0->Ca 238 #[.slice A n c,.func (.func 239) #[] #[.pointer (some ⟨w.heap.size,0,none⟩),.pointer (some ⟨w.heap.size+1,0,none⟩)]] w1 fun e w'=>
      e=.returned (I 0)/\RdSt w w' w.heap.size (w.heap.size+1) bs out i:=fun w1 h=>(heach w1 h).mono fun e w' ⟨h1,h2⟩=>⟨h1,h2.2 rfl⟩
     clear heach
     by_cases hlt:i<bs.length
     · have hr2:Hid (r=([],12)):=by show r=_;rw[<- Hr.out];simp[hlt]
       go_enter Tryz.func165,Tryz.ntmps165;go_wp2_with (first | (go_at_call 150;go_call (hright _ (ht.below ((Below.refl _ _).alloc aW _) aW)) as e w' ⟨rfl,rfl⟩) | ((go_at_call 238;go_call (heach2 _ (hst _ bI bI bc)) as e w2 ⟨rfl,hst2⟩);obtain⟨hb2,_,_,⟨A3,n3,c3,hk3,hrb3,hn3,hc3⟩,A4,n4,c4,hk4,hown4⟩:=hst2;have hl3:=hrb3.1;rw[aH] at hl3;have h03:(0:Int)<(n3:Int):=aS;clear hl3;have k3:=hk3.c0;have k4:=hk4.c0;clear hk3 hk4));go_ret2;exact kW.bad 12 (by rw[hr2.out]) (by rw[hr2.out];rfl) hb2
     · have hr2:Hid (r=(out,0)):=by show r=_;rw[<- Hr.out];simp[hlt]
       go_enter Tryz.func165,Tryz.ntmps165;go_wp2_with (first | (go_at_call 150;go_call (hright _ (ht.below ((Below.refl _ _).alloc aW _) aW)) as e w' ⟨rfl,rfl⟩) | ((go_at_call 238;go_call (heach2 _ (hst _ bI bI bc)) as e w2 ⟨rfl,hst2⟩);obtain⟨hb2,_,_,⟨A3,n3,c3,hk3,hrb3,hn3,hc3⟩,A4,n4,c4,hk4,hown4⟩:=hst2;have hl3:=hrb3.1;rw[aH] at hl3;have h03:n3=0:=aS;subst h03;clear hl3;have k3:=hk3.c0;have k4:=hk4.c0;clear hk3 hk4));go_ret2;exact⟨A4,n4,c4,by rw[hr2.out];rfl,by rw[hr2.out];exact hown4,hb2⟩
   · have hr2:Hid (r=([],z)):=by show r=_;rw[<- Hr.out];simp[hz]
     have hb:(((z:Nat):Int) != 0)=true:=by rw[ag];omega
     have hb3:(((z:Nat):Int) == 0)=false:=by rw[af];omega
     clear hz;go_enter Tryz.func165,Tryz.ntmps165;go_wp2_with (first | (go_at_call 150;go_call (hright _ (ht.below ((Below.refl _ _).alloc aW _) aW)) as e w' ⟨rfl,rfl⟩) | ((go_at_call 238;go_call (heach _ (hst _ bI bI bc)) as e w2 ⟨rfl,hst2⟩);have hb2:=hst2.1));go_ret2;exact kW.bad _ (by rw[hr2.out]) (by rw[hr2.out]) hb2
def cK (w:World)(base:Nat)(A:Option Addr)(n:Nat)(l:List Int):Prop:=RI w A n l/\n<=maxLen/\(0<n->fJ w base 3 A)
section
variable {M:List TypeId} {w w':World} {base n:Nat} {p:bE} {D:aX} {A:Option Addr} {l:List Int}
theorem cK.step (H:cK w base A n l)(hd:be w base p D)(k:Step M base p w w')(ht:3 ∉ 4 :: M):cK w' base A n l :=
 ⟨⟨H.1.1,H.1.2.stepR H.2.2 hd k ht⟩,H.2.1,fun h0=>(H.2.2 h0).step hd k ht⟩
theorem cK.below (H:cK w base A n l)(hb:Below w.heap.size w w'):cK w' base A n l :=
 ⟨H.1.below hb aW,H.2.1,fun h0 g hg=>by
  rcases H.2.2 h0 g hg with q | ⟨cs,q⟩
  · exact .inl q
  · exact .inr ⟨cs,q.below hb q.lt⟩⟩
theorem cK.old {w0:World}(H:RI w0 A n l)(hm:n<=maxLen)(hb:Below w0.heap.size w0 w)(hs:w0.heap.size<=base):cK w base A n l :=
 ⟨H.below hb aW,hm,fun h0 g hg=>by
  obtain⟨b,o,e,q,_⟩:=H.2 h0;rw[e] at hg;simp only[Option.map_some,Option.some.injEq] at hg;exact .inl aS⟩
theorem cK.of_ow {b c:Nat}(H:Ow iv w b 3 A n c l):cK w base A n l :=
 ⟨H.rd.ri,by have:=H.cap;omega,fun _ g hg=>.inr (H.blk hg)⟩
theorem cK.ri (H:cK w base A n l):RI w A n l:=H.1
theorem cK.len (H:cK w base A n l):n<=maxLen:=H.2.1
theorem cK.nil (w:World)(base:Nat):cK w base none 0 []:=⟨⟨rfl,Row.nil _ _ _⟩,by unfold maxLen;omega,fun h=>absurd h aS⟩
end
def cX (t:TypeId)(w:World)(base g ga:Nat)(kind:Int)(next:Nat)(ts:List Int):Prop :=
 ∃ gj A n c,Blk w g t [.pointer (some ⟨gj,0,none⟩),.slice A n c]/\base<=gj/\dc w gj ga kind next/\cK w base A n ts
section
variable {M:List TypeId} {t:TypeId} {w w':World} {base g ga next:Nat} {kind:Int} {ts:List Int} {p:bE} {D:aX}
theorem cX.step (H:cX t w base g ga kind next ts)(hd:be w base p D)(k:Step M base p w w')(h1:t ∉ 4 :: M)(h2:363 ∉ 4 :: M)(h3:3 ∉ 4 :: M):cX t w' base g ga kind next ts:=by
 obtain⟨gj,A,n,c,hb,hg,hj,hi⟩:=H;exact⟨gj,A,n,c,hd.blk hb k.tch h1,hg,hd.blk hj k.tch h2,hi.step hd k h3⟩
theorem cX.below (H:cX t w base g ga kind next ts)(hb:Below w.heap.size w w'):cX t w' base g ga kind next ts:=by
 obtain⟨gj,A,n,c,hx,hg,hj,hi⟩:=H;exact⟨gj,A,n,c,hx.below hb hx.lt,hg,hj.below hb,hi.below hb⟩
end
structure ej (w:World)(base:Nat)(x:PA)(p:PV):Prop where
 rd:cC w x p
 s1:0<x.n1->fJ w base 3 x.A1
 s2:0<x.n2->fJ w base 3 x.A2
 s3:0<x.n3->fJ w base 187 x.A3
 s4:0<x.n4->fJ w base 144 x.A4
section
variable {M:List TypeId} {w w' w0:World} {base:Nat} {q:bE} {D:aX} {x:PA} {p:PV}
theorem fJ.below (h:fJ w base t A)(hb:Below w.heap.size w w'):fJ w' base t A:=fun g hg=>by
 rcases h g hg with e | ⟨cs,e⟩
 · exact .inl e
 · exact .inr ⟨cs,e.below hb e.lt⟩
theorem RdS.stepR {α:Type}{enc:α->List Value}{l:List α}(h:RdS size enc w A n l)(h0:0<size)(hr:0<n->fJ w base t A)(hd:be w base q D)(k:Step M base q w w')(ht:t ∉ 4 :: M):RdS size enc w' A n l :=
 ⟨h.1,h.2.1,h.2.2.stepR (fun e=>hr (by rcases aI n with z | z;· rw[z,Nat.zero_mul] at e;omega
                                       · exact z)) hd k ht⟩
theorem ej.below (h:ej w base x p)(hb:Below w.heap.size w w'):ej w' base x p :=
 ⟨h.rd.below hb aW,fun e=>(h.s1 e).below hb,fun e=>(h.s2 e).below hb,fun e=>(h.s3 e).below hb,fun e=>(h.s4 e).below hb⟩
theorem ej.step (h:ej w base x p)(hd:be w base q D)(k:Step M base q w w')(h1:3 ∉ 4 :: M)(h3:187 ∉ 4 :: M)(h4:144 ∉ 4 :: M):ej w' base x p :=
 ⟨⟨⟨h.rd.r1.1,h.rd.r1.2.stepR h.s1 hd k h1⟩,⟨h.rd.r2.1,h.rd.r2.2.stepR h.s2 hd k h1⟩,h.rd.r3.stepR aS h.s3 hd k h3,h.rd.r4.stepR aS h.s4 hd k h4,h.rd.k1,h.rd.k2,h.rd.k3,h.rd.k4⟩,
  fun e=>(h.s1 e).step hd k h1,fun e=>(h.s2 e).step hd k h1,fun e=>(h.s3 e).step hd k h3,fun e=>(h.s4 e).step hd k h4⟩
theorem mF {f:Nat->Value}(h:Row w0 A n f)(hs:w0.heap.size<=base)(h0:0<n):fJ w base t A:=fun g hg=>by
 obtain⟨b,o,e,hb,_⟩:=h h0;rw[e] at hg;simp only[Option.map_some,Option.some.injEq] at hg;exact .inl aS
theorem ej.old (h:cC w0 x p)(hb:Below w0.heap.size w0 w)(hs:w0.heap.size<=base):ej w base x p :=
 ⟨h.below hb aW,fun e=>mF h.r1.2 hs e,fun e=>mF h.r2.2 hs e,fun e=>mF h.r3.2.2 hs aS,fun e=>mF h.r4.2.2 hs aS⟩
end
def machC (y:PA)(p:PV):List Value:=[.slice y.A1 y.n1 y.c1,.slice y.A2 y.n2 y.c2,I p.regs,.slice y.A3 y.n3 y.c3,.slice y.A4 y.n4 y.c4,.bool true]
structure fX (w:World)(base g:Nat)(y:PA)(p:PV):Prop where
 b:Blk w g 285 (machC y p)
 gb:base<=g
 pr:ej w base y p
section
variable {w w':World} {base g:Nat} {y x:PA} {p:PV}
theorem fX.below (h:fX w base g y p)(hb:Below w.heap.size w w'):fX w' base g y p:=⟨h.b.below hb h.b.lt,h.gb,h.pr.below hb⟩
theorem mG (h:fX w base g y p):Ca 243 #[.pointer (some ⟨g,0,none⟩)] w fun e w'=>e=.returned (.bool true)/\w=w':=by
 have h5:=h.b.c5;have hl:=h.b.lt;clear h;go_enter Tryz.func243,Tryz.ntmps243;go_wp2;go_ret;exact⟨rfl,rfl⟩
end
theorem run_cut_max {P:Program}{e:TypeId}{z:Value}{bytes:Nat}(hE:dQ P t e z size bytes)(A:Option Addr)(len cap n:Nat)(h:n<=cap)(W:World) :
 (Instr.slice t (.slice A len cap) none (some (I (n:Int))) (some (I (n:Int)))).run P W=.ok (.slice A n n) W:=by
 obtain⟨ht,⟨i,hi,_,hs,_⟩,_⟩:=hE;have hb:(0:Int)<=(n:Int)/\(n:Int)<=(cap:Int):=aS;simp[Instr.slice,run_underlying ht,Instr.sliceBounds,Instr.sliceBound,hb,sizeOf,typeInfo,hi,asIntOf,oU];intro hlt;omega
theorem OwS.blkC {α:Type}{enc:α->List Value}{w:World}{base c g:Nat}{e:TypeId}{l:List α}(h:OwS size enc w base e A n c l)(hg:A.map (·.block)=some g):∃ cs,Blk w g e cs:=by
 rcases h.2.2 with ⟨hv,_⟩ | ⟨g',cap,cur,hv,_,hh,_⟩
 · injection hv with hv;subst hv;cases hg
 · injection hv with hv;subst hv;simp only[Option.map_some,Option.some.injEq] at hg;subst hg;exact⟨cur.toList,by unfold Blk;rw[hh]⟩
structure js (w W:World)(gb gm:Nat)(x:PA)(p:PV)(cs:List Value):Prop where
 x:Blk W gb 26 [.slice x.A1 x.n1 x.c1,.slice x.A2 x.n2 x.c2,I p.regs,.slice x.A3 x.n3 x.c3,.slice x.A4 x.n4 x.c4]
 m:Blk W gm 285 cs
 bel:Below w.heap.size w W
 gm:w.heap.size<=gm
section
variable {w W W':World} {gb gm:Nat} {x:PA} {p:PV} {cs:List Value}
theorem js.below (h:js w W gb gm x p cs)(hb:Below W.heap.size W W'):js w W' gb gm x p cs:=⟨h.x.below hb h.x.lt,h.m.below hb h.m.lt,h.bel.trans (hb.mono h.bel.size),h.gm⟩
theorem js.set (h:js w W gb gm x p cs)(i:Nat)(u:Value):js w (W.setCell ⟨gm,i,none⟩ u) gb gm x p (cs.set i u) :=
 ⟨h.x.far (p:=⟨gm,i,none⟩) (h.x.ne_ h.m aU) u,h.m.set_ i u,h.bel.setCell h.gm u,h.gm⟩
end
theorem vnew_yes {x:PA}{p:PV}(w:World)(h:cC w x p)(hw:eO p)(hv:dF p=true) :
 Ca 106 #[.agg #[.slice x.A1 x.n1 x.c1,.slice x.A2 x.n2 x.c2,I p.regs,.slice x.A3 x.n3 x.c3,.slice x.A4 x.n4 x.c4]] w fun e w'=>∃ g y,e=.returned (.tuple #[.pointer (some ⟨g,0,none⟩),I 0])/\(∀ b,b<=w.heap.size->fX w' b g y p)/\Below w.heap.size w w':=by
 have hvr:=fun W h=>oy x p W h hw
 rw[hv] at hvr;have hm:=(jK hv).1;obtain⟨m1,m2,m3,m4,m5,m6,_,_⟩:=dV.1 hm;have l1:=(fG.1 m1).2.2;have l2:=(fG.1 m2).2.2;have n1:=h.r1.1;have n2:=h.r2.1;have n3:=h.r3.1;have n4:=h.r4.1;have e1:x.n1<=100000:=aS;have e2:x.n2<=100000:=aS;have e3:x.n3<=100000:=aS;have e4:x.n4<=100000:=aS;have H:=aT h;clear hv hw hm m1 m2 m3 m4 m5 m6 l1 l2 n1 n2 n3 n4 h;go_enter Tryz.func106,Tryz.ntmps106;go_upto_region 4 with (first | ((go_at_call 65;go_call (hvr _ (H.out.below bc aW)) as e w1 ⟨rfl,hb1⟩);have X1:=Blk.below (w':=w1) (g:=w.heap.size) (t:=26) (cs:=[.slice x.A1 x.n1 x.c1,.slice x.A2 x.n2 x.c2,I p.regs,.slice x.A3 x.n3 x.c3,.slice x.A4 x.n4 x.c4]) (Blk.top _ rfl rfl) hb1 br;obtain⟨x10,x11,x12,x13,x14⟩:=blk5 X1;have lx1:=X1.lt;have B1:=bO (a:=w) (B:=w.heap.size) bc hb1 br;have s1:=B1.size) | fail);have N1:js w (w1.alloc (.cells #[.slice x.A1 x.n1 x.c1,.slice x.A2 x.n2 x.c2,I p.regs,.slice x.A3 x.n3 x.c3,.slice x.A4 x.n4 x.c4,.bool true] 285)) w.heap.size w1.heap.size x p (machC x p) :=
  ⟨X1.alloc _,Blk.top _ rfl rfl,B1.alloc s1 _,s1⟩
 generalize hgm:w1.heap.size=gm at N1;refine eG (fun W=>js w W w.heap.size gm x p (machC x p)) N1 ?_;clear N1 hgm x10 x11 x12 x13 x14 X1 lx1 B1 s1 hb1 hvr;intro w2 N2;obtain⟨x0,x1,x2,x3,x4⟩:=blk5 N2.x;have xl:=N2.x.lt;have ml:=N2.m.lt;have m4:=N2.m.c4;have f4:=N2.m.frozen 4;have xm:=N2.x.ne_ N2.m aU;have hs2:=N2.bel.size;have bd2:Below w2.heap.size w2 w2.drew:=Below.drew (Below.refl _ _);have HN2:=aT (N2.below bd2);have ck4:=clone_code x.A4 x.n4 x.c4 p.code w2.drew (H.out.below (b:=w.heap.size) (N2.bel.trans (bd2.mono hs2)) aW).r4 e4;clear bd2 N2;go_region_held3 (fun w'=>w'.cell? ⟨w.heap.size,4,none⟩=some (.slice x.A4 x.n4 x.c4)) (first | go_keep | assumption) (first | ((go_at_call 196;go_call (ck4) as e w3 ⟨A3,c3,rfl,own3,hb3⟩);have hct3:=fun W=>run_cut_max (P:=Tryz.prog) elemInsC A3 x.n4 c3 x.n4 own3.cap.1 W;have N3:=HN2.out.below hb3;have y4:=N3.x.c4;have l3:=N3.m.lt;have k4:=N3.m.c4;have g4:=N3.m.frozen 4;have z4:=(dD w3 (p:=⟨gm,4,none⟩) (q:=⟨w.heap.size,4,none⟩) (.slice A3 x.n4 x.n4) dv).trans y4;have z5:(w3.setCell ⟨gm,4,none⟩ (.slice A3 x.n4 x.n4)).cell? ⟨w.heap.size,4,none⟩=some (.slice x.A4 x.n4 x.c4):=z4) | fail);have N4:=N3.set 4 (.slice A3 x.n4 x.n4);have O4:=own3.setFar N3.m aU 4 (.slice A3 x.n4 x.n4);have O4b:=O4.rebase (by simpa using hs2);have cp4:=own3.cap;go_upto_region 5 with fail;refine eG (fun W=>js w W w.heap.size gm x p ((machC x p).set 4 (.slice A3 x.n4 x.n4))/\OwS 5 insE W w.heap.size 144 A3 x.n4 c3 p.code) ⟨N4,O4b⟩ ?_;clear N4 O4 O4b N3 own3 hct3 y4 l3 k4 g4 z4 z5 ck4 HN2 x0 x1 x2 x3 x4 xl ml m4 f4 hb3 hs2;intro w5 O5;obtain⟨N5,own5⟩:=O5;obtain⟨x0,x1,x2,x3,x4⟩:=blk5 N5.x;have xl:=N5.x.lt;have ml:=N5.m.lt;have hs5:=N5.bel.size;have bd5:Below w5.heap.size w5 w5.drew:=Below.drew (Below.refl _ _);have HN5:=aT (N5.below bd5);have HO5:=aT (own5.below bd5 aW);have ck3:=clone_cells x.A3 x.n3 x.c3 p.cells w5.drew (H.out.below (b:=w.heap.size) (N5.bel.trans (bd5.mono hs5)) aW).r3 e3;have ck1:=fun (W:World) (hb:Below w.heap.size w W)=>iZ x.A1 x.n1 x.c1 p.ins W (H.out.below (b:=w.heap.size) hb aW).r1 e1
 have ck2:=fun (W:World) (hb:Below w.heap.size w W)=>iZ x.A2 x.n2 x.c2 p.outs W (H.out.below (b:=w.heap.size) hb aW).r2 e2
 clear bd5 N5 own5;go_region_held3 (fun w'=>w'.cell? ⟨w.heap.size,3,none⟩=some (.slice x.A3 x.n3 x.c3)/\w'.cell? ⟨w.heap.size,0,none⟩=some (.slice x.A1 x.n1 x.c1)/\w'.cell? ⟨w.heap.size,1,none⟩=some (.slice x.A2 x.n2 x.c2)) (first | go_keep | (refine⟨?_,?_,?_⟩ <;> assumption)) (first | ((go_at_call 197;go_call (ck3) as e w6 ⟨B3,d3,rfl,own6,hb6⟩);have N6:=HN5.out.below hb6;have R6:=aT (HO5.out.below hb6 aW);have y63:=N6.x.c3;have y60:=N6.x.c0;have y61:=N6.x.c1;have ck1':=ck1 w6 N6.bel) | ((go_at_call 145;(with_reducible refine (ck1').mono ?_);rintro e w7 ⟨B1,d1,rfl,own7,hb7⟩);have N7:=N6.below hb7;have R7:=aT (R6.out.below hb7 aW);have C7:=aT (own6.below hb7 aW);have y73:=N7.x.c3;have y70:=N7.x.c0;have y71:=N7.x.c1;have ck2':=ck2 w7 N7.bel;clear ck1') | ((go_at_call 145;(with_reducible refine (ck2').mono ?_);rintro e w8 ⟨B2,d2,rfl,own8,hb8⟩);have N8:=N7.below hb8;have R8:=aT (R7.out.below hb8 aW);have C8:=aT (C7.out.below hb8 aW);have I8:=aT (own7.below hb8 aW);have y83:=N8.x.c3;have y80:=N8.x.c0;have y81:=N8.x.c1;have ml8:=N8.m.lt;have P1:=N8.set 3 (.slice B3 x.n3 d3);have P2:=P1.set 0 (.slice B1 x.n1 d1);have P3:=P2.set 1 (.slice B2 x.n2 d2);have k83:=N8.m.c3;have f83:=N8.m.frozen 3;have k80:=N8.m.c0;have f80:=N8.m.frozen 0;have k81:=N8.m.c1;have f81:=N8.m.frozen 1;have sP13:=P1.x.c3;have sP10:=P1.x.c0;have sP11:=P1.x.c1;have sP23:=P2.x.c3;have sP20:=P2.x.c0;have sP21:=P2.x.c1;have sP33:=P3.x.c3;have sP30:=P3.x.c0;have sP31:=P3.x.c1;have kP10:=P1.m.c0;have fP10:=P1.m.frozen 0;have kP11:=P1.m.c1;have fP11:=P1.m.frozen 1;have kP21:=P2.m.c1;have fP21:=P2.m.frozen 1) | fail);have q1:=((I8.out.setFar N8.m aU 3 (.slice B3 x.n3 d3)).setFar P1.m aU 0 (.slice B1 x.n1 d1)).setFar P2.m aU 1 (.slice B2 x.n2 d2);have q2:=((own8.setFar N8.m aU 3 (.slice B3 x.n3 d3)).setFar P1.m aU 0 (.slice B1 x.n1 d1)).setFar P2.m aU 1 (.slice B2 x.n2 d2);have q3:=((C8.out.setFar N8.m aU 3 (.slice B3 x.n3 d3)).setFar P1.m aU 0 (.slice B1 x.n1 d1)).setFar P2.m aU 1 (.slice B2 x.n2 d2);have q4:=((R8.out.setFar N8.m aU 3 (.slice B3 x.n3 d3)).setFar P1.m aU 0 (.slice B1 x.n1 d1)).setFar P2.m aU 1 (.slice B2 x.n2 d2);have Q1:=aT q1;have Q2:=aT q2;have Q3:=aT q3;have Q4:=aT q4;have F3:=aT P3;clear q1 q2 q3 q4 P1 P2 P3 N8 N7 N6 own8 own7 own6;go_wp2_with fail;go_ret2;have hb3':=F3.out.bel;refine⟨gm,⟨B1,x.n1,d1,B2,x.n2,d2,B3,x.n3,d3,A3,x.n4,x.n4⟩,rfl,fun b hbl=>⟨F3.out.m,ae hbl F3.out.gm,⟨⟨Q1.out.rd.ri,Q2.out.rd.ri,Q3.out.rd,Q4.out.rd,Q1.out.cap,Q2.out.cap,Q3.out.cap,⟨Nat.le_refl _,by show x.n4<=maxLen;unfold maxLen;omega⟩⟩,fun _ g hg=>.inr (ir Q1.out hg),fun _ g hg=>.inr (ir Q2.out hg),fun _ g hg=>.inr (Q3.out.blkC hg),fun _ g hg=>.inr (Q4.out.blkC hg)⟩⟩,hb3'⟩
section
variable {w w':World} {base g:Nat} {y x:PA} {p:PV}
theorem firstV_take {p:PV}{k:Nat}{x:Int × Int}(h:p.cells[k]?=some x):(fq p).take k ++ [x.2]=(fq p).take (k+1):=by
 rw[List.take_add_one];unfold fq;rw[List.getElem?_map,h]
 rfl
theorem pS (h:fX w base g y p)(hn3:p.cells.length<=100000):Ca 169 #[.pointer (some ⟨g,0,none⟩)] w fun e w'=>∃ A c,e=.returned (.slice A y.n3 c)/\Ow iv w' w.heap.size 3 A y.n3 c (fq p)/\Below w.heap.size w w':=by
 have his:=mG h;have c3:=h.b.c3;have r3:=h.pr.rd.r3;have hlen:=r3.1;have M3:y.n3<=1000000000000:=aS;clear h hn3;go_enter Tryz.func169,Tryz.ntmps169;go_wp2_with (first | (go_at_call 243;go_call (his) as e w1 ⟨rfl,rfl⟩) | fail);go_loopw [3,15] (fun v i wr=>∃ (k:Nat) (A:Option Addr) (c:Nat),k<=y.n3/\i=I (k:Nat)/\v=.slice A k c/\Ow iv wr w.heap.size 3 A k c ((fq p).take k)/\Below w.heap.size w wr) (fun _ i _=>y.n3 - (intOf i).toNat)
 case atStart=>exact⟨0,none,0,aS,rfl,rfl,Ow.nil _ _ _ _,Below.refl _ _⟩
 case round=>
  obtain⟨k,A,c,hk,rfl,rfl,hown,hb⟩:=hrel;have hbs:=hb.size
  by_cases hlt:k<y.n3
  · obtain⟨b,o,x,hA,hbl,hx,hc⟩:=(r3.below hb aW).at_ iy aS hlt;have e0:wr.cell? ⟨b,o+k * 2,none⟩=some (I x.1):=hc 0 aS;have e1:wr.cell? ⟨b,o+k * 2+1,none⟩=some (I x.2):=hc 1 aS;have hL:=aT (firstV_take (p:=p) hx);have hA3:=hA;clear hc hx r3;rw[hA];obtain⟨t,f⟩:=x;simp only at e0 e1 hL;go_wp2_with (first | (at_builtin;refine dR rfl rfl fF gq (s:=.tmp 19) (N:=k+1) (L:=(fq p).take (k+1)) rfl (hown.below (b:=wr.heap.size) bc br) rfl (k:=[f]) (Rd.of_block (l:=[f]) (dP _ _ aZ) rfl) rfl (hL.out) bQ aS br ?_;intro A5 c5 w5 hown5 hg5 hat5 hb5) | fail);replace hb5:=bO (a:=w) (B:=w.heap.size) bc hb5 br;have hb5s:=hb5.size;go_roundw
    case rel=>exact⟨k+1,A5,c5,aS,by go_num,rfl,hown5,hb5⟩
    case measure=>simp[intOf];omega
  · have hkn:k=y.n3:=aS;subst hkn;have hge:((fq p).take y.n3)=fq p:=au (by unfold fq;rw[az];omega);rw[hge] at hown;have HO:=aT hown;clear hown hge;go_wp2;go_ret;exact⟨A,c,rfl,HO.out,hb⟩
theorem mfits_any (h:fX w base g y p)(B:Option Addr)(n d:Nat)(l:List Int)(hl:RI w B n l)(hn:n<=maxLen):Ca 244 #[.pointer (some ⟨g,0,none⟩),.slice B n d] w fun e w'=>e=.returned (.bool (ia p l))/\Below w.heap.size w w':=by
 have his:=mG h;have hI:=@iV p l;generalize ia p l=z at *;have c3:=h.b.c3;have r3:=h.pr.rd.r3;have k3:=h.pr.rd.k3;rw[r3.1,hl.1] at hI;have HI:=aT hI;have M3:y.n3<=9223372036854775807:=by unfold maxLen at k3;omega
 have hmm:n<=9223372036854775807:=by unfold maxLen at hn;omega
 clear k3 h hI hn
 by_cases he:n=y.n3
 · subst he;have f3:(((y.n3:Nat):Int) != (y.n3:Int))=false:=by simp
   have HZ:Hid (z=true ↔ ∀ i,i<y.n3->okAt (db p.cells i).1 (bj l i)=true):=by
    show _ ↔ _
    constructor
    · intro h;exact (HI.out.1 h).2
    · intro h;exact HI.out.2 ⟨rfl,h⟩
   clear HI;go_enter Tryz.func244,Tryz.ntmps244;go_wp2_with (first | (go_at_call 243;go_call (his) as e w1 ⟨rfl,rfl⟩) | fail);go_loopw [27] (fun i wr=>∃ k:Nat,k<=y.n3/\i=I (k:Nat)/\Hid (∀ i,i<k->okAt (db p.cells i).1 (bj l i)=true)/\Below w.heap.size w wr) (fun i _=>y.n3 - (intOf i).toNat)
   case atStart=>exact⟨0,aS,rfl,fun i hi=>absurd hi aS,Below.refl _ _⟩
   case round=>
    obtain⟨k,hk,rfl,hall,hbel⟩:=hrel;have hbs:=hbel.size
    by_cases hlt:k<y.n3
    · have hne:¬ (y.n3:Int)<=(k:Int):=aS;obtain⟨b,o,x,hA,hb,hx,hc⟩:=(r3.below hbel aW).at_ iy aS hlt;have e0:wr.cell? ⟨b,o+k * 2,none⟩=some (I x.1):=hc 0 aS;have e1:wr.cell? ⟨b,o+k * 2+1,none⟩=some (I x.2):=hc 1 aS;obtain⟨b2,o2,rfl,hb2,hc2⟩:=(hl.below hbel aW).at_ hlt;have hxk:=aT (jD hx);clear hc hx r3 hl;rw[hA];obtain⟨t,f⟩:=x;simp only at e0 e1
      cases hvb:okAt t (bj l k) with
      | true=>
        have hall':Hid (∀ i,i<k+1->okAt (db p.cells i).1 (bj l i)=true):=fun i hi=>by
         rcases ay i k with h | h
         · exact hall.out i h
         · rw[show i=k from by omega,hxk.out];exact hvb
        have h12:=jR.1 hvb;clear hvb hall
        by_cases ht:t=2
        · have h12':=h12 ht;subst ht;clear h12;rcases h12' with h9 | h9
          all_goals
           rw[h9] at hc2;clear h9;go_wp2;go_roundw
           case rel=>exact⟨k+1,aS,by go_num,hall',bc⟩
           case measure=>simp[intOf];omega
        · have bt:(t == 2)=false:=by rw[af];exact ht
          clear ht h12;go_wp2;go_roundw
          case rel=>exact⟨k+1,aS,by go_num,hall',bc⟩
          case measure=>simp[intOf];omega
      | false=>
        have hz:Hid (z=false):=by
         show z=false
         rw[Bool.eq_false_iff];intro hc;have h9:=HZ.out.1 hc k hlt;rw[hxk.out,hvb] at h9
         cases h9
        obtain⟨h5,h6,h7⟩:=nB.1 hvb;have b6:(bj l k != 0)=true:=by rw[ag];exact h6
        have b7:(bj l k != 1)=true:=by rw[ag];exact h7
        subst h5;clear hvb hall h6 h7;generalize bj l k=v at *;go_wp2;go_ret;exact⟨df hz.out.symm,bc⟩
    · have hkn:k=y.n3:=aS;subst hkn;have hge:((y.n3:Nat):Int)<=(y.n3:Int):=aS;have hz:Hid (z=true):=HZ.out.2 hall.out;clear HZ hall;go_wp2;go_ret;exact⟨df hz.out.symm,hbel⟩
 · have f3:(((n:Nat):Int) != (y.n3:Int))=true:=by rw[ag];omega
   have hz:Hid (z=false):=by
    show z=false
    rw[Bool.eq_false_iff];intro hc;exact he (HI.out.1 hc).1
   clear he HI;go_enter Tryz.func244,Tryz.ntmps244;go_wp2_with (first | (go_at_call 243;go_call (his) as e w1 ⟨rfl,rfl⟩) | fail);go_ret;exact⟨df hz.out.symm,Below.refl _ _⟩
end
section
variable {w w':World} {base g:Nat} {y x:PA} {p:PV}
def TkCut (p:PV)(y:PA)(w:World)(Ac:Option Addr)(n c:Nat)(cells:List Int)(Ai:Option Addr)(k d:Nat)(l:List Int)(r:Nat)(zr zo:List Int)(t:Value)(wx:World):Prop :=
 ∃ gt a,t=.pointer (some ⟨gt,0,none⟩)/\dn w wx gt a cells l ⟨zr,cells,zo,0⟩/\a.nr=r/\a.nc=n/\a.nn=n/\a.ni=k/\a.no=y.n2
theorem mtick_yes (h:fX w base g y p)(hv:dF p=true)(hw:eO p)(Ac:Option Addr)(n c:Nat)(cells:List Int)(hc:RI w Ac n cells)(hn:n<=100000)(Ai:Option Addr)(k d:Nat)(l:List Int)(hl:RI w Ai k l)(hk:k<=maxLen)(h64:∀ z ∈ cells,In64 z)(hi64:∀ z ∈ l,In64 z)(hz1:ia p cells=true)(hz2:cx p.ins l=true) :
 Ca 170 #[.pointer (some ⟨g,0,none⟩),.slice Ac n c,.slice Ai k d] w fun e w'=>∃ A1 c1 A2 c2,e=.returned (.tuple #[.slice A1 n c1,.slice A2 y.n2 c2,I ((goV p cells l 0 (eP p cells)).steps:Nat),I 0])/\Ow iv w' w.heap.size 3 A1 n c1 (goV p cells l 0 (eP p cells)).next/\Ow iv w' w.heap.size 3 A2 y.n2 c2 (goV p cells l 0 (eP p cells)).out/\Below w.heap.size w w':=by
 have his:=mG h;have hfi:=mfits_any h Ac n c cells hc bQ;rw[hz1] at hfi;have c1:∀ W,Below w.heap.size w W->W.cell? ⟨g,0,none⟩=some (.slice y.A1 y.n1 y.c1):=fun W hb=>(h.below hb).b.cell 0
 have hrf:=fun (W:World) (hb:Below w.heap.size w W)=>jS y.A1 Ai y.n1 k y.c1 d p.ins l W (h.pr.rd.r1.below (B:=w.heap.size) hb aW) (hl.below (B:=w.heap.size) hb aW) (ae h.pr.rd.k1.1 h.pr.rd.k1.2) hk
 rw[hz2] at hrf;have hm0:=(jK hv).1;obtain⟨m1,m2,m3,m4,m5,m6,_,_⟩:=dV.1 hm0;have l2:=(fG.1 m2).2.2;have e2:=h.pr.rd.r2.1;have e4:=h.pr.rd.r4.1;have e1:=h.pr.rd.r1.1;have hk4:=h.pr.rd.k4;have ecl:=(iV.1 hz1).1;have eil:=(jC.1 hz2).2.1;have ecn:=hc.1;have ein:=hl.1;obtain⟨r,hr⟩:∃ r:Nat,p.regs=(r:Nat):=⟨p.regs.toNat,aS⟩;have r1600:r<=1600:=aS;have n2le:y.n2<=100:=aS;have n4le:y.n4<=1000000000000:=aS;have hmk1:∀ W:World,(Instr.makeSlice 22 (I (r:Int)) (I (r:Int))).run Tryz.prog W=.ok (.slice (some ⟨W.heap.size,0,none⟩) r r) (W.alloc (.cells ((List.replicate r (0:Int)).map iv).toArray 3)):=fun W=>by
  have:=kM fF r aS aS W;rw[show madeCells (I 0).cells r=((List.replicate r (0:Int)).map iv).toArray from by
   apply Array.ext';rw[show (I 0).cells=#[I 0] from rfl,toList_madeCells_one];simp[iv]] at this
  exact this
 have hmk2:∀ W:World,(Instr.makeSlice 22 (I (y.n2:Int)) (I (y.n2:Int))).run Tryz.prog W=.ok (.slice (some ⟨W.heap.size,0,none⟩) y.n2 y.n2) (W.alloc (.cells ((List.replicate y.n2 (0:Int)).map iv).toArray 3)):=fun W=>by
  have:=kM fF y.n2 aS aS W;rw[show madeCells (I 0).cells y.n2=((List.replicate y.n2 (0:Int)).map iv).toArray from by
   apply Array.ext';rw[show (I 0).cells=#[I 0] from rfl,toList_madeCells_one];simp[iv]] at this
  exact this
 have hst:eP p cells=⟨List.replicate r 0,cells,List.replicate y.n2 0,0⟩:=by
  unfold eP;rw[hr,ax,<- e2]
 have HST:=aT hst;have HLR:=aT (show (List.replicate r (0:Int)).length=r from List.length_replicate);have HLO:=aT (show (List.replicate y.n2 (0:Int)).length=y.n2 from List.length_replicate);have HM:=aT h;have HC:=aT hc;have HI:=aT hl;have HR:=aT hr;have hok:=VOk.start m3 ecl h64;have HOK:=aT hok;have hMC:machC y p=[.slice y.A1 y.n1 y.c1,.slice y.A2 y.n2 y.c2,I (r:Int),.slice y.A3 y.n3 y.c3,.slice y.A4 y.n4 y.c4,.bool true]:=by unfold machC;rw[hr]
 have HMC:=aT hMC;have hsafe:∀ i,i<y.n4->InsSafe p i (aY p.code i):=fun i hi=>safe_of hv aS
 have hin:∀ i,i<y.n4->In64 (aY p.code i).k:=fun i hi=>by
  have hi':i<p.code.length:=aS;have e:=ap hi';have:=hw.code _ (List.getElem_mem hi');rw[gY e];exact⟨this.2.2.2.1,this.2.2.2.2⟩
 have HS:=aT hsafe;have HIN:=aT hin;have H64:=aT h64;have HI64:=aT hi64;have r4:=h.pr.rd.r4;have R4:=aT r4;have en:n=p.cells.length:=aS;have ek:k=p.ins.length:=aS;have eo:y.n2=p.outs.length:=aS;have EE:=aT (show n=p.cells.length/\k=p.ins.length/\y.n2=p.outs.length/\y.n4=p.code.length from ⟨en,ek,eo,aS⟩);clear h hc hl hr hst hok hMC hsafe hin h64 hi64 r4 en ek eo e1 e2 e4 ecl eil ecn ein m1 m2 m3 m4 m5 m6 hz1 hz2 hm0 l2 hk4;generalize List.replicate r (0:Int)=zr at *;generalize List.replicate y.n2 (0:Int)=zo at *;go_enter Tryz.func170,Tryz.ntmps170;go_upto_region 5 with (first | (go_at_call 243;go_call (his) as e w1 ⟨rfl,rfl⟩) | ((go_at_call 244;go_call (hfi) as e w2 ⟨rfl,hb2⟩);have k2:=c1 w2 hb2) | (go_at_call 216;go_call (hrf w2 hb2) as e w3 ⟨rfl,rfl⟩) | fail);have B2:=aT hb2;clear his hfi hrf c1 k2;go_cut [10] (fun t wx=>TkCut p y w Ac n c cells Ai k d l r zr zo t wx)
 case first=>
  have hm:Blk w2 g 285 [.slice y.A1 y.n1 y.c1,.slice y.A2 y.n2 y.c2,I (r:Int),.slice y.A3 y.n3 y.c3,.slice y.A4 y.n4 y.c4,.bool true]:=by rw[<- HMC.out];exact (HM.out.below hb2).b
  have hb:=Below.drew hb2;refine wp_region_held_drew (S:=fun w'=>Blk w' g 285 [.slice y.A1 y.n1 y.c1,.slice y.A2 y.n2 y.c2,I (r:Int),.slice y.A3 y.n3 y.c3,.slice y.A4 y.n4 y.c4,.bool true]) bM hm.drew (fun hHeld=>?_);replace hm:=hm.drew;clear hb2;generalize w2.drew=W0 at *;refine aV 0 ?_;refine aV 1 ?_;refine aV 2 ?_;refine aV 3 ?_;refine aV 4 ?_ (hy:=Or.inl ⟨by rfl,by (intro w hSw;(try dsimp only at hSw);have s2:=hSw.c2;go_simp;rfl)⟩);refine aV 6 ?_;refine aV 7 ?_;refine aV 9 ?_;refine aV 10 ?_;refine aV 11 ?_;refine aV 12 ?_;refine aV 13 ?_;refine aV 14 ?_ (hy:=Or.inl ⟨by rfl,by (intro w hSw;(try dsimp only at hSw);have s1:=hSw.c1;go_simp;rfl)⟩);refine aV 15 ?_;refine wpAnyH_ready (rs:=[5,8,16]) bT aZ ?_;refine AllReadyH.cons rfl (fun K hK=>?_) (AllReadyH.cons rfl (fun K hK=>?_) (AllReadyH.cons rfl (fun K hK=>?_) AllReadyH.nil))
  · have hsz:=hb.size;go_simp;have hba:Below W0.heap.size W0 (W0.alloc (.cells (zr.map iv).toArray 3)):=(Below.refl _ _).alloc aW _;have Hr:Ow iv (W0.alloc (.cells (zr.map iv).toArray 3)) W0.heap.size 3 (some ⟨W0.heap.size,0,none⟩) r r zr:=gM (Blk.top _ rfl rfl) aW HLR.out bQ;have lr:=hsz;replace hm:=Blk.below hm hba (Blk.lt hm);replace hb:=hb.trans (hba.mono hb.size);obtain⟨G0,hG0⟩:∃ G,W0.heap.size=G:=⟨_,rfl⟩;obtain⟨W0,hW0⟩:∃ V,W0.alloc (.cells (zr.map iv).toArray 3)=V:=⟨_,rfl⟩;simp only[hW0,hG0] at *;clear hba hsz hW0 hG0;refine hK.out _ _ (hm) (fun hHeld=>?_);clear hK K;refine bJ ?_;refine wpAnyH_ready (rs:=[8,16]) bT aZ ?_;refine AllReadyH.cons rfl (fun K hK=>?_) (AllReadyH.cons rfl (fun K hK=>?_) AllReadyH.nil)
    · have hsz:=hb.size;go_simp
      (go_at_call 145;go_call (iZ Ac n c cells W0 (HC.out.below (B:=w.heap.size) hb aW) aS) as e W1 ⟨An,cn,rfl,Hn,hbn⟩)
      have ln:=hsz;have drn:∀ b,(some (⟨G0,0,none⟩:Addr)).map (·.block)=some b->An.map (·.block)≠some b:=fun b q1 q2=>by have:=(Hr.lt b q1).2;have:=(Hn.lt b q2).1;omega
      replace Hr:=Hr.below hbn aW;replace hm:=Blk.below hm hbn (Blk.lt hm);replace hb:=hb.trans (hbn.mono hb.size);refine hK.out _ _ (hm) (fun hHeld=>?_);clear hK K;refine bJ ?_;refine bR 16 (fun K hK=>?_)
      · have hsz:=hb.size;go_simp;have hba:Below W1.heap.size W1 (W1.alloc (.cells (zo.map iv).toArray 3)):=(Below.refl _ _).alloc aW _;have Ho:Ow iv (W1.alloc (.cells (zo.map iv).toArray 3)) W1.heap.size 3 (some ⟨W1.heap.size,0,none⟩) y.n2 y.n2 zo:=gM (Blk.top _ rfl rfl) aW HLO.out bQ;have lo:=hsz;have dro:∀ b,(some (⟨G0,0,none⟩:Addr)).map (·.block)=some b->(some (⟨W1.heap.size,0,none⟩:Addr)).map (·.block)≠some b:=fun b q1 q2=>by have:=(Hr.lt b q1).2;have:=(Ho.lt b q2).1;omega
        replace Hr:=Hr.below hba aW;have dno:∀ b,(An).map (·.block)=some b->(some (⟨W1.heap.size,0,none⟩:Addr)).map (·.block)≠some b:=fun b q1 q2=>by have:=(Hn.lt b q1).2;have:=(Ho.lt b q2).1;omega
        replace Hn:=Hn.below hba aW;replace hm:=Blk.below hm hba (Blk.lt hm);replace hb:=hb.trans (hba.mono hb.size);obtain⟨G2,hG2⟩:∃ G,W1.heap.size=G:=⟨_,rfl⟩;obtain⟨W2,hW2⟩:∃ V,W1.alloc (.cells (zo.map iv).toArray 3)=V:=⟨_,rfl⟩;simp only[hW2,hG2] at *;clear hba hsz hW2 hG2;refine hK.out _ _ (hm) (fun hHeld=>?_);clear hK K;refine bJ ?_;refine aV 17 ?_;refine bR 18 (fun K hK=>?_);go_simp;have hx1:=Blk.alloc hm (.cells #[.slice (some ⟨G0,0,none⟩) r r,.slice Ac n c,.slice An n cn,.slice Ai k d,.slice (some ⟨G2,0,none⟩) y.n2 y.n2] 348);have bb:=(Below.refl W2.heap.size W2).alloc aW (.cells #[.slice (some ⟨G0,0,none⟩) r r,.slice Ac n c,.slice An n cn,.slice Ai k d,.slice (some ⟨G2,0,none⟩) y.n2 y.n2] 348);refine hK.out _ _ (hx1) (fun hHeld=>?_);clear hK K;refine bJ ?_;refine aV 19 ?_;refine wpAnyH_done bT ?_ _;go_wp2_with fail;go_meet;exact⟨W2.heap.size,⟨some ⟨G0,0,none⟩,r,r,Ac,n,c,An,n,cn,Ai,k,d,some ⟨G2,0,none⟩,y.n2,y.n2⟩,rfl,⟨hb.trans (bb.mono hb.size),Blk.top _ rfl rfl,hb.size,(Hr.below bb aW).rebase lr,(Hn.below bb aW).rebase ln,(Ho.below bb aW).rebase lo,HC.out,HI.out,drn,dro,dno⟩,rfl,rfl,rfl,rfl,rfl⟩
    · have hsz:=hb.size;go_simp;have hba:Below W0.heap.size W0 (W0.alloc (.cells (zo.map iv).toArray 3)):=(Below.refl _ _).alloc aW _;have Ho:Ow iv (W0.alloc (.cells (zo.map iv).toArray 3)) W0.heap.size 3 (some ⟨W0.heap.size,0,none⟩) y.n2 y.n2 zo:=gM (Blk.top _ rfl rfl) aW HLO.out bQ;have lo:=hsz;have dro:∀ b,(some (⟨G0,0,none⟩:Addr)).map (·.block)=some b->(some (⟨W0.heap.size,0,none⟩:Addr)).map (·.block)≠some b:=fun b q1 q2=>by have:=(Hr.lt b q1).2;have:=(Ho.lt b q2).1;omega
      replace Hr:=Hr.below hba aW;replace hm:=Blk.below hm hba (Blk.lt hm);replace hb:=hb.trans (hba.mono hb.size);obtain⟨G3,hG3⟩:∃ G,W0.heap.size=G:=⟨_,rfl⟩;obtain⟨W3,hW3⟩:∃ V,W0.alloc (.cells (zo.map iv).toArray 3)=V:=⟨_,rfl⟩;simp only[hW3,hG3] at *;clear hba hsz hW3 hG3;refine hK.out _ _ (hm) (fun hHeld=>?_);clear hK K;refine bJ ?_;refine bR 8 (fun K hK=>?_)
      · have hsz:=hb.size;go_simp
        (go_at_call 145;go_call (iZ Ac n c cells W3 (HC.out.below (B:=w.heap.size) hb aW) aS) as e W4 ⟨An,cn,rfl,Hn,hbn⟩)
        have ln:=hsz;have drn:∀ b,(some (⟨G0,0,none⟩:Addr)).map (·.block)=some b->An.map (·.block)≠some b:=fun b q1 q2=>by have:=(Hr.lt b q1).2;have:=(Hn.lt b q2).1;omega
        replace Hr:=Hr.below hbn aW;have don:∀ b,(some (⟨G3,0,none⟩:Addr)).map (·.block)=some b->An.map (·.block)≠some b:=fun b q1 q2=>by have:=(Ho.lt b q1).2;have:=(Hn.lt b q2).1;omega
        replace Ho:=Ho.below hbn aW;replace hm:=Blk.below hm hbn (Blk.lt hm);replace hb:=hb.trans (hbn.mono hb.size);refine hK.out _ _ (hm) (fun hHeld=>?_);clear hK K;refine bJ ?_;refine aV 17 ?_;refine bR 18 (fun K hK=>?_);go_simp;have hx1:=Blk.alloc hm (.cells #[.slice (some ⟨G0,0,none⟩) r r,.slice Ac n c,.slice An n cn,.slice Ai k d,.slice (some ⟨G3,0,none⟩) y.n2 y.n2] 348);have bb:=(Below.refl W4.heap.size W4).alloc aW (.cells #[.slice (some ⟨G0,0,none⟩) r r,.slice Ac n c,.slice An n cn,.slice Ai k d,.slice (some ⟨G3,0,none⟩) y.n2 y.n2] 348);refine hK.out _ _ (hx1) (fun hHeld=>?_);clear hK K;refine bJ ?_;refine aV 19 ?_;refine wpAnyH_done bT ?_ _;go_wp2_with fail;go_meet;exact⟨W4.heap.size,⟨some ⟨G0,0,none⟩,r,r,Ac,n,c,An,n,cn,Ai,k,d,some ⟨G3,0,none⟩,y.n2,y.n2⟩,rfl,⟨hb.trans (bb.mono hb.size),Blk.top _ rfl rfl,hb.size,(Hr.below bb aW).rebase lr,(Hn.below bb aW).rebase ln,(Ho.below bb aW).rebase lo,HC.out,HI.out,drn,dro,(fun b q1 q2=>don b q2 q1)⟩,rfl,rfl,rfl,rfl,rfl⟩
  · have hsz:=hb.size;go_simp
    (go_at_call 145;go_call (iZ Ac n c cells W0 (HC.out.below (B:=w.heap.size) hb aW) aS) as e W5 ⟨An,cn,rfl,Hn,hbn⟩)
    have ln:=hsz;replace hm:=Blk.below hm hbn (Blk.lt hm);replace hb:=hb.trans (hbn.mono hb.size);refine hK.out _ _ (hm) (fun hHeld=>?_);clear hK K;refine bJ ?_;refine wpAnyH_ready (rs:=[5,16]) bT aZ ?_;refine AllReadyH.cons rfl (fun K hK=>?_) (AllReadyH.cons rfl (fun K hK=>?_) AllReadyH.nil)
    · have hsz:=hb.size;go_simp;have hba:Below W5.heap.size W5 (W5.alloc (.cells (zr.map iv).toArray 3)):=(Below.refl _ _).alloc aW _;have Hr:Ow iv (W5.alloc (.cells (zr.map iv).toArray 3)) W5.heap.size 3 (some ⟨W5.heap.size,0,none⟩) r r zr:=gM (Blk.top _ rfl rfl) aW HLR.out bQ;have lr:=hsz;have dnr:∀ b,(An).map (·.block)=some b->(some (⟨W5.heap.size,0,none⟩:Addr)).map (·.block)≠some b:=fun b q1 q2=>by have:=(Hn.lt b q1).2;have:=(Hr.lt b q2).1;omega
      replace Hn:=Hn.below hba aW;replace hm:=Blk.below hm hba (Blk.lt hm);replace hb:=hb.trans (hba.mono hb.size);obtain⟨G6,hG6⟩:∃ G,W5.heap.size=G:=⟨_,rfl⟩;obtain⟨W6,hW6⟩:∃ V,W5.alloc (.cells (zr.map iv).toArray 3)=V:=⟨_,rfl⟩;simp only[hW6,hG6] at *;clear hba hsz hW6 hG6;refine hK.out _ _ (hm) (fun hHeld=>?_);clear hK K;refine bJ ?_;refine bR 16 (fun K hK=>?_)
      · have hsz:=hb.size;go_simp;have hba:Below W6.heap.size W6 (W6.alloc (.cells (zo.map iv).toArray 3)):=(Below.refl _ _).alloc aW _;have Ho:Ow iv (W6.alloc (.cells (zo.map iv).toArray 3)) W6.heap.size 3 (some ⟨W6.heap.size,0,none⟩) y.n2 y.n2 zo:=gM (Blk.top _ rfl rfl) aW HLO.out bQ;have lo:=hsz;have dro:∀ b,(some (⟨G6,0,none⟩:Addr)).map (·.block)=some b->(some (⟨W6.heap.size,0,none⟩:Addr)).map (·.block)≠some b:=fun b q1 q2=>by have:=(Hr.lt b q1).2;have:=(Ho.lt b q2).1;omega
        replace Hr:=Hr.below hba aW;have dno:∀ b,(An).map (·.block)=some b->(some (⟨W6.heap.size,0,none⟩:Addr)).map (·.block)≠some b:=fun b q1 q2=>by have:=(Hn.lt b q1).2;have:=(Ho.lt b q2).1;omega
        replace Hn:=Hn.below hba aW;replace hm:=Blk.below hm hba (Blk.lt hm);replace hb:=hb.trans (hba.mono hb.size);obtain⟨G7,hG7⟩:∃ G,W6.heap.size=G:=⟨_,rfl⟩;obtain⟨W7,hW7⟩:∃ V,W6.alloc (.cells (zo.map iv).toArray 3)=V:=⟨_,rfl⟩;simp only[hW7,hG7] at *;clear hba hsz hW7 hG7;refine hK.out _ _ (hm) (fun hHeld=>?_);clear hK K;refine bJ ?_;refine aV 17 ?_;refine bR 18 (fun K hK=>?_);go_simp;have hx1:=Blk.alloc hm (.cells #[.slice (some ⟨G6,0,none⟩) r r,.slice Ac n c,.slice An n cn,.slice Ai k d,.slice (some ⟨G7,0,none⟩) y.n2 y.n2] 348);have bb:=(Below.refl W7.heap.size W7).alloc aW (.cells #[.slice (some ⟨G6,0,none⟩) r r,.slice Ac n c,.slice An n cn,.slice Ai k d,.slice (some ⟨G7,0,none⟩) y.n2 y.n2] 348);refine hK.out _ _ (hx1) (fun hHeld=>?_);clear hK K;refine bJ ?_;refine aV 19 ?_;refine wpAnyH_done bT ?_ _;go_wp2_with fail;go_meet;exact⟨W7.heap.size,⟨some ⟨G6,0,none⟩,r,r,Ac,n,c,An,n,cn,Ai,k,d,some ⟨G7,0,none⟩,y.n2,y.n2⟩,rfl,⟨hb.trans (bb.mono hb.size),Blk.top _ rfl rfl,hb.size,(Hr.below bb aW).rebase lr,(Hn.below bb aW).rebase ln,(Ho.below bb aW).rebase lo,HC.out,HI.out,(fun b q1 q2=>dnr b q2 q1),dro,dno⟩,rfl,rfl,rfl,rfl,rfl⟩
    · have hsz:=hb.size;go_simp;have hba:Below W5.heap.size W5 (W5.alloc (.cells (zo.map iv).toArray 3)):=(Below.refl _ _).alloc aW _;have Ho:Ow iv (W5.alloc (.cells (zo.map iv).toArray 3)) W5.heap.size 3 (some ⟨W5.heap.size,0,none⟩) y.n2 y.n2 zo:=gM (Blk.top _ rfl rfl) aW HLO.out bQ;have lo:=hsz;have dno:∀ b,(An).map (·.block)=some b->(some (⟨W5.heap.size,0,none⟩:Addr)).map (·.block)≠some b:=fun b q1 q2=>by have:=(Hn.lt b q1).2;have:=(Ho.lt b q2).1;omega
      replace Hn:=Hn.below hba aW;replace hm:=Blk.below hm hba (Blk.lt hm);replace hb:=hb.trans (hba.mono hb.size);obtain⟨G8,hG8⟩:∃ G,W5.heap.size=G:=⟨_,rfl⟩;obtain⟨W8,hW8⟩:∃ V,W5.alloc (.cells (zo.map iv).toArray 3)=V:=⟨_,rfl⟩;simp only[hW8,hG8] at *;clear hba hsz hW8 hG8;refine hK.out _ _ (hm) (fun hHeld=>?_);clear hK K;refine bJ ?_;refine bR 5 (fun K hK=>?_)
      · have hsz:=hb.size;go_simp;have hba:Below W8.heap.size W8 (W8.alloc (.cells (zr.map iv).toArray 3)):=(Below.refl _ _).alloc aW _;have Hr:Ow iv (W8.alloc (.cells (zr.map iv).toArray 3)) W8.heap.size 3 (some ⟨W8.heap.size,0,none⟩) r r zr:=gM (Blk.top _ rfl rfl) aW HLR.out bQ;have lr:=hsz;have dnr:∀ b,(An).map (·.block)=some b->(some (⟨W8.heap.size,0,none⟩:Addr)).map (·.block)≠some b:=fun b q1 q2=>by have:=(Hn.lt b q1).2;have:=(Hr.lt b q2).1;omega
        replace Hn:=Hn.below hba aW;have dor:∀ b,(some (⟨G8,0,none⟩:Addr)).map (·.block)=some b->(some (⟨W8.heap.size,0,none⟩:Addr)).map (·.block)≠some b:=fun b q1 q2=>by have:=(Ho.lt b q1).2;have:=(Hr.lt b q2).1;omega
        replace Ho:=Ho.below hba aW;replace hm:=Blk.below hm hba (Blk.lt hm);replace hb:=hb.trans (hba.mono hb.size);obtain⟨G9,hG9⟩:∃ G,W8.heap.size=G:=⟨_,rfl⟩;obtain⟨W9,hW9⟩:∃ V,W8.alloc (.cells (zr.map iv).toArray 3)=V:=⟨_,rfl⟩;simp only[hW9,hG9] at *;clear hba hsz hW9 hG9;refine hK.out _ _ (hm) (fun hHeld=>?_);clear hK K;refine bJ ?_;refine aV 17 ?_;refine bR 18 (fun K hK=>?_);go_simp;have hx1:=Blk.alloc hm (.cells #[.slice (some ⟨G9,0,none⟩) r r,.slice Ac n c,.slice An n cn,.slice Ai k d,.slice (some ⟨G8,0,none⟩) y.n2 y.n2] 348);have bb:=(Below.refl W9.heap.size W9).alloc aW (.cells #[.slice (some ⟨G9,0,none⟩) r r,.slice Ac n c,.slice An n cn,.slice Ai k d,.slice (some ⟨G8,0,none⟩) y.n2 y.n2] 348);refine hK.out _ _ (hx1) (fun hHeld=>?_);clear hK K;refine bJ ?_;refine aV 19 ?_;refine wpAnyH_done bT ?_ _;go_wp2_with fail;go_meet;exact⟨W9.heap.size,⟨some ⟨G9,0,none⟩,r,r,Ac,n,c,An,n,cn,Ai,k,d,some ⟨G8,0,none⟩,y.n2,y.n2⟩,rfl,⟨hb.trans (bb.mono hb.size),Blk.top _ rfl rfl,hb.size,(Hr.below bb aW).rebase lr,(Hn.below bb aW).rebase ln,(Ho.below bb aW).rebase lo,HC.out,HI.out,(fun b q1 q2=>dnr b q2 q1),(fun b q1 q2=>dor b q2 q1),dno⟩,rfl,rfl,rfl,rfl,rfl⟩
  · have hsz:=hb.size;go_simp;have hba:Below W0.heap.size W0 (W0.alloc (.cells (zo.map iv).toArray 3)):=(Below.refl _ _).alloc aW _;have Ho:Ow iv (W0.alloc (.cells (zo.map iv).toArray 3)) W0.heap.size 3 (some ⟨W0.heap.size,0,none⟩) y.n2 y.n2 zo:=gM (Blk.top _ rfl rfl) aW HLO.out bQ;have lo:=hsz;replace hm:=Blk.below hm hba (Blk.lt hm);replace hb:=hb.trans (hba.mono hb.size);obtain⟨G10,hG10⟩:∃ G,W0.heap.size=G:=⟨_,rfl⟩;obtain⟨W10,hW10⟩:∃ V,W0.alloc (.cells (zo.map iv).toArray 3)=V:=⟨_,rfl⟩;simp only[hW10,hG10] at *;clear hba hsz hW10 hG10;refine hK.out _ _ (hm) (fun hHeld=>?_);clear hK K;refine bJ ?_;refine wpAnyH_ready (rs:=[5,8]) bT aZ ?_;refine AllReadyH.cons rfl (fun K hK=>?_) (AllReadyH.cons rfl (fun K hK=>?_) AllReadyH.nil)
    · have hsz:=hb.size;go_simp;have hba:Below W10.heap.size W10 (W10.alloc (.cells (zr.map iv).toArray 3)):=(Below.refl _ _).alloc aW _;have Hr:Ow iv (W10.alloc (.cells (zr.map iv).toArray 3)) W10.heap.size 3 (some ⟨W10.heap.size,0,none⟩) r r zr:=gM (Blk.top _ rfl rfl) aW HLR.out bQ;have lr:=hsz;have dor:∀ b,(some (⟨G10,0,none⟩:Addr)).map (·.block)=some b->(some (⟨W10.heap.size,0,none⟩:Addr)).map (·.block)≠some b:=fun b q1 q2=>by have:=(Ho.lt b q1).2;have:=(Hr.lt b q2).1;omega
      replace Ho:=Ho.below hba aW;replace hm:=Blk.below hm hba (Blk.lt hm);replace hb:=hb.trans (hba.mono hb.size);obtain⟨G11,hG11⟩:∃ G,W10.heap.size=G:=⟨_,rfl⟩;obtain⟨W11,hW11⟩:∃ V,W10.alloc (.cells (zr.map iv).toArray 3)=V:=⟨_,rfl⟩;simp only[hW11,hG11] at *;clear hba hsz hW11 hG11;refine hK.out _ _ (hm) (fun hHeld=>?_);clear hK K;refine bJ ?_;refine bR 8 (fun K hK=>?_)
      · have hsz:=hb.size;go_simp
        (go_at_call 145;go_call (iZ Ac n c cells W11 (HC.out.below (B:=w.heap.size) hb aW) aS) as e W12 ⟨An,cn,rfl,Hn,hbn⟩)
        have ln:=hsz;have drn:∀ b,(some (⟨G11,0,none⟩:Addr)).map (·.block)=some b->An.map (·.block)≠some b:=fun b q1 q2=>by have:=(Hr.lt b q1).2;have:=(Hn.lt b q2).1;omega
        replace Hr:=Hr.below hbn aW;have don:∀ b,(some (⟨G10,0,none⟩:Addr)).map (·.block)=some b->An.map (·.block)≠some b:=fun b q1 q2=>by have:=(Ho.lt b q1).2;have:=(Hn.lt b q2).1;omega
        replace Ho:=Ho.below hbn aW;replace hm:=Blk.below hm hbn (Blk.lt hm);replace hb:=hb.trans (hbn.mono hb.size);refine hK.out _ _ (hm) (fun hHeld=>?_);clear hK K;refine bJ ?_;refine aV 17 ?_;refine bR 18 (fun K hK=>?_);go_simp;have hx1:=Blk.alloc hm (.cells #[.slice (some ⟨G11,0,none⟩) r r,.slice Ac n c,.slice An n cn,.slice Ai k d,.slice (some ⟨G10,0,none⟩) y.n2 y.n2] 348);have bb:=(Below.refl W12.heap.size W12).alloc aW (.cells #[.slice (some ⟨G11,0,none⟩) r r,.slice Ac n c,.slice An n cn,.slice Ai k d,.slice (some ⟨G10,0,none⟩) y.n2 y.n2] 348);refine hK.out _ _ (hx1) (fun hHeld=>?_);clear hK K;refine bJ ?_;refine aV 19 ?_;refine wpAnyH_done bT ?_ _;go_wp2_with fail;go_meet;exact⟨W12.heap.size,⟨some ⟨G11,0,none⟩,r,r,Ac,n,c,An,n,cn,Ai,k,d,some ⟨G10,0,none⟩,y.n2,y.n2⟩,rfl,⟨hb.trans (bb.mono hb.size),Blk.top _ rfl rfl,hb.size,(Hr.below bb aW).rebase lr,(Hn.below bb aW).rebase ln,(Ho.below bb aW).rebase lo,HC.out,HI.out,drn,(fun b q1 q2=>dor b q2 q1),(fun b q1 q2=>don b q2 q1)⟩,rfl,rfl,rfl,rfl,rfl⟩
    · have hsz:=hb.size;go_simp
      (go_at_call 145;go_call (iZ Ac n c cells W10 (HC.out.below (B:=w.heap.size) hb aW) aS) as e W13 ⟨An,cn,rfl,Hn,hbn⟩)
      have ln:=hsz;have don:∀ b,(some (⟨G10,0,none⟩:Addr)).map (·.block)=some b->An.map (·.block)≠some b:=fun b q1 q2=>by have:=(Ho.lt b q1).2;have:=(Hn.lt b q2).1;omega
      replace Ho:=Ho.below hbn aW;replace hm:=Blk.below hm hbn (Blk.lt hm);replace hb:=hb.trans (hbn.mono hb.size);refine hK.out _ _ (hm) (fun hHeld=>?_);clear hK K;refine bJ ?_;refine bR 5 (fun K hK=>?_)
      · have hsz:=hb.size;go_simp;have hba:Below W13.heap.size W13 (W13.alloc (.cells (zr.map iv).toArray 3)):=(Below.refl _ _).alloc aW _;have Hr:Ow iv (W13.alloc (.cells (zr.map iv).toArray 3)) W13.heap.size 3 (some ⟨W13.heap.size,0,none⟩) r r zr:=gM (Blk.top _ rfl rfl) aW HLR.out bQ;have lr:=hsz;have dnr:∀ b,(An).map (·.block)=some b->(some (⟨W13.heap.size,0,none⟩:Addr)).map (·.block)≠some b:=fun b q1 q2=>by have:=(Hn.lt b q1).2;have:=(Hr.lt b q2).1;omega
        replace Hn:=Hn.below hba aW;have dor:∀ b,(some (⟨G10,0,none⟩:Addr)).map (·.block)=some b->(some (⟨W13.heap.size,0,none⟩:Addr)).map (·.block)≠some b:=fun b q1 q2=>by have:=(Ho.lt b q1).2;have:=(Hr.lt b q2).1;omega
        replace Ho:=Ho.below hba aW;replace hm:=Blk.below hm hba (Blk.lt hm);replace hb:=hb.trans (hba.mono hb.size);obtain⟨G14,hG14⟩:∃ G,W13.heap.size=G:=⟨_,rfl⟩;obtain⟨W14,hW14⟩:∃ V,W13.alloc (.cells (zr.map iv).toArray 3)=V:=⟨_,rfl⟩;simp only[hW14,hG14] at *;clear hba hsz hW14 hG14;refine hK.out _ _ (hm) (fun hHeld=>?_);clear hK K;refine bJ ?_;refine aV 17 ?_;refine bR 18 (fun K hK=>?_);go_simp;have hx1:=Blk.alloc hm (.cells #[.slice (some ⟨G14,0,none⟩) r r,.slice Ac n c,.slice An n cn,.slice Ai k d,.slice (some ⟨G10,0,none⟩) y.n2 y.n2] 348);have bb:=(Below.refl W14.heap.size W14).alloc aW (.cells #[.slice (some ⟨G14,0,none⟩) r r,.slice Ac n c,.slice An n cn,.slice Ai k d,.slice (some ⟨G10,0,none⟩) y.n2 y.n2] 348);refine hK.out _ _ (hx1) (fun hHeld=>?_);clear hK K;refine bJ ?_;refine aV 19 ?_;refine wpAnyH_done bT ?_ _;go_wp2_with fail;go_meet;exact⟨W14.heap.size,⟨some ⟨G14,0,none⟩,r,r,Ac,n,c,An,n,cn,Ai,k,d,some ⟨G10,0,none⟩,y.n2,y.n2⟩,rfl,⟨hb.trans (bb.mono hb.size),Blk.top _ rfl rfl,hb.size,(Hr.below bb aW).rebase lr,(Hn.below bb aW).rebase ln,(Ho.below bb aW).rebase lo,HC.out,HI.out,(fun b q1 q2=>dnr b q2 q1),(fun b q1 q2=>dor b q2 q1),(fun b q1 q2=>don b q2 q1)⟩,rfl,rfl,rfl,rfl,rfl⟩
 case rest=>
  obtain⟨gt,a,rfl,hT,ar,ac,an,ai,ao⟩:=hcut;rw[<- HST.out] at hT;have AR:=aT (show (a.nr:Int)=p.regs from by rw[ar,HR.out]);have AC:=aT (show a.nc=p.cells.length from by rw[ac];exact EE.out.1);have AN:=aT (show a.nn=p.cells.length from by rw[an];exact EE.out.1);have AI:=aT (show a.ni=p.ins.length from by rw[ai];exact EE.out.2.1);have AO:=aT (show a.no=p.outs.length from by rw[ao];exact EE.out.2.2.1);have EAN:=aT an;have EAO:=aT ao;have ML:=aT EE.out.2.2.2;clear ar ac an ai ao hb2 hmk1 hmk2 n2le r1600;have HT:=aT hT;have hst0:=(show (eP p cells).steps=0 from rfl);have HST0:=aT hst0;clear hT hst0;go_wp2_with fail;go_loopw [8,11] (fun st i wr=>∃ (j:Nat) (s:VS),j<=y.n4/\i=I (j:Nat)/\st=I (s.steps:Nat)/\s.steps<=j/\Hid (goV p cells l j s=goV p cells l 0 (eP p cells))/\Hid (VOk p s)/\Hid (dn w wr gt a cells l s)) (fun _ i _=>y.n4 - (intOf i).toNat)
  case atStart=>exact⟨0,eP p cells,aS,rfl,by rw[HST0.out];rfl,by rw[HST0.out];omega,aT rfl,HOK,HT⟩
  case round=>
   obtain⟨j,s,hj,rfl,rfl,hsj,hgo,hvok,hT⟩:=hrel;obtain⟨st,hst⟩:∃ st,s.steps=st:=⟨_,rfl⟩;have HSt:=aT hst;have hbel:=hT.out.bel;have hbs:=hbel.size;have m4:wr.cell? ⟨g,4,none⟩=some (.slice y.A4 y.n4 y.c4):=(HM.out.below hbel).b.cell 4
   by_cases hlt:j<y.n4
   · obtain⟨b,o,x,hA,hbl,hx,hc⟩:=(R4.out.below hbel aW).at_ gX aS hlt;have e0:wr.cell? ⟨b,o+j * 5,none⟩=some (I x.op):=hc 0 aS;have e1:wr.cell? ⟨b,o+j * 5+1,none⟩=some (I x.a):=hc 1 aS;have e2:wr.cell? ⟨b,o+j * 5+2,none⟩=some (I x.b):=hc 2 aS;have e3:wr.cell? ⟨b,o+j * 5+3,none⟩=some (I x.c):=hc 3 aS;have e4:wr.cell? ⟨b,o+j * 5+4,none⟩=some (I x.k):=hc 4 aS;have hxi:=gY hx;have hsf:=HS.out j hlt;have hik:=HIN.out j hlt;rw[hxi] at hsf hik;have hstep:=goV_step (p:=p) (cells:=cells) (ins:=l) (i:=j) (s:=s) (by rw[<- ML.out];exact hlt);rw[hxi] at hstep;have hdo:=does_any hsf hT.out AR.out AC.out AN.out AI.out AO.out hvok.out.rr;have hov:iU x s.regs<=y.n4 - 1 - j:=by
      have:=hsf.k30;have:=ML.out;unfold iU
      split
      · rename_i q;have:=hsf.k30 (by rcases q with q | q;exact .inl q.1;exact .inr q.1);omega
      · omega
     have NX:=aT (hvok.out.exec H64.out HI64.out hik);have NG:=aT (hstep.symm.trans hgo.out);have NS:(dO cells l x s).steps=st+1:=by
      unfold dO;rw[hst]
      repeat' (first | rfl | split)
     have NSH:=aT NS;clear NS hstep hc hx hxi hsf hik hgo hvok hT;rw[hst] at hsj ⊢;clear hst;rw[hA] at m4;generalize hE:dO cells l x s=s2 at *;generalize iU x s.regs=ov at *;clear hE;go_wp2_with (first | (go_at_call 245;go_call (hdo) as e w4 ⟨rfl,hT4⟩) | fail);have HT4:=aT hT4;clear hT4;go_roundw
     case rel=>exact⟨j+1+ov,s2,aS,by go_num,by rw[NSH.out];go_num,by rw[NSH.out];omega,NG,NX,HT4⟩
     case measure=>simp[intOf];omega
   · have hjn:j=y.n4:=aS;have hge:(y.n4:Int)<=(j:Int):=aS;have hend:=goV_end (p:=p) (cells:=cells) (ins:=l) (i:=j) (s:=s) (by rw[<- ML.out];omega);rw[hgo.out] at hend;have HE:=aT hend;have t2:=hT.out.t.c2;have t4:=hT.out.t.c4;have gl:=hT.out.t.lt;clear hend hgo hvok hst;go_upto_region 11 with fail;go_region_held3 (fun w'=>w'.cell? ⟨gt,2,none⟩=some (.slice a.An a.nn a.cn)/\w'.cell? ⟨gt,4,none⟩=some (.slice a.Ao a.no a.co)) (first | go_keep | (refine⟨?_,?_⟩ <;> assumption)) (fail);go_wp2_with fail;go_returns;have D:=hT.out.drew;have DN:=D.n;have DO:=D.o;rw[HE.out];rw[EAN.out] at DN ⊢;rw[EAO.out] at DO ⊢;exact⟨a.An,a.cn,a.Ao,a.co,rfl,DN,DO,D.bel⟩
end
