/- Parts: Do39, PlayE, PlainPlay, PlainTal. -/
import Derived.Test.YtmeebofhlilcmaaGreatPr50
set_option linter.unusedVariables false
set_option linter.unusedSimpArgs false
set_option maxRecDepth 100000
set_option maxHeartbeats 0
namespace Go.Proofs.YtmeebofhlilcmaaGreat
variable {t1 t2 t6:Int}
open Go.RowKit Go.WideShapes Go.ChangeShapes Go.Deep Go.Joins
section
variable {H:Type} {enc:TypeId × Value→H} {w:World} {base b0:Nat} {held:Bool} {r:Reach} {v:Value} {d:DataW H} {ps:List MemPlace}
theorem args_evs (hval:Value.okWide Tryz.prog w r b0 93 v)(hd:DataW.Trod enc Tryz.prog w base (fun _=>true) held 93 v d ps) :
 ∃ A n c l,v=.slice A n c/\DosW w A n l/\n<=c/\c<=maxLen:=by
 obtain⟨A,n,c,rfl,hn,hc,hat⟩:=open_structs (k:=4) Tryz.underlying93 Tryz.underlying98 bE bE rfl aS hval hd;have hx:∀ i,i<n->∃ x:DoW,∃ b o C q e B m c,A=some ⟨b,o,none⟩/\b<w.heap.size/\w.cell? ⟨b,o+i * 4+0,none⟩=some (I x.kind)/\w.cell? ⟨b,o+i * 4+1,none⟩=some (I x.n)/\w.cell? ⟨b,o+i * 4+2,none⟩=some (.slice C q e)/\w.cell? ⟨b,o+i * 4+3,none⟩=some (.slice B m c) /\
  RI w C q x.l/\q<=e/\e<=maxLen/\RB w B m x.b/\m<=c/\c<=maxLen/\(-9223372036854775808<=x.kind/\x.kind<=9223372036854775807)/\(-9223372036854775808<=x.n/\x.n<=9223372036854775807)/\eE x.l:=by
  intro i hi;obtain⟨b,o,vs,hA,hb,hl,hcell,fuel,hf⟩:=hat i hi;obtain⟨u0,y0,e0,t0⟩:=hf 0 _ rfl;obtain⟨u1,y1,e1,t1⟩:=hf 1 _ rfl;obtain⟨u2,y2,e2,t2⟩:=hf 2 _ rfl;obtain⟨u3,y3,e3,t3⟩:=hf 3 _ rfl;obtain⟨z0,hz0,_,hw0⟩:=DataW.trod_int Tryz.underlying3 t0;obtain⟨z1,hz1,_,hw1⟩:=DataW.trod_int Tryz.underlying3 t1;have hz0:u0=I z0:=by simpa using hz0
  have hz1:u1=I z1:=by simpa using hz1
  subst hz0 hz1;obtain⟨C,q,c2,li,rfl,r2,k2,m2,hin⟩:=ng Tryz.underlying22 Tryz.underlying3 bE t2;obtain⟨B,m,c',l,rfl,r1,k1,m1⟩:=trod_bytes Tryz.underlying27 Tryz.underlying5 bE t3;exact⟨⟨z0,z1,li,l⟩,b,o,C,q,c2,B,m,c',hA,hb,(hcell 0 aS).trans e0,(hcell 1 aS).trans e1,(hcell 2 aS).trans e2,(hcell 3 aS).trans e3,r2,k2,m2,r1,k1,m1,bounds_i64 hw0,bounds_i64 hw1,intOk_of hin⟩
 obtain⟨l,hl,hp⟩:=list_of hx;exact⟨A,n,c,l,rfl,⟨hl,hp⟩,hn,hc⟩
end
def gO (l:List DoW):Bool:=l.all (fun x=>decide (x.b.length<=100) && decide (x.l.length<=20)) && decide (l.length<=60)
theorem fewVB_true {l:List DoW}(h:gO l=true):l.length<=60/\∀ x ∈ l,x.b.length<=100/\x.l.length<=20:=by
 unfold gO at h;rw[av,List.all_eq_true,aq] at h;refine⟨h.2,fun x hx=>?_⟩;have:=h.1 x hx;rw[av,aq,aq] at this;exact this
theorem fewVB_no {l:List DoW}{k:Nat}{x:DoW}(hx:l[k]?=some x)(h:100<x.b.length\/20<x.l.length):gO l=false:=by
 cases hq:gO l with
 | false=>rfl
 | true=>have:=(fewVB_true hq).2 x (List.mem_of_getElem? hx);omega
theorem fewVB_all {l:List DoW}(h:∀ (k:Nat) (x:DoW),l[k]?=some x->x.b.length<=100/\x.l.length<=20):gO l=decide (l.length<=60):=by
 unfold gO;rw[show l.all (fun x=>decide (x.b.length<=100) && decide (x.l.length<=20))=true from by
  rw[List.all_eq_true];intro x hx;obtain⟨k,hk⟩:=List.getElem?_of_mem hx;rw[av,aq,aq];exact h k x hk,Bool.true_and]
theorem few39_any (A:Option Addr)(n c:Nat)(l:List DoW)(w:World)(hl:DosW w A n l)(hn:n<=maxLen) :
 Ca 49 #[.slice A n c] w fun e w'=>e=.returned (.bool (gO l))/\Below w.heap.size w w':=by
 have hlen:=aT hl.1;unfold maxLen at hn;go_enter Tryz.func49,Tryz.ntmps49;go_wp2;go_loopw [4,7] (fun _ i wr=>∃ k:Nat,k<=n/\i=I (k:Nat)/\(∀ (j:Nat) (x:DoW),j<k->l[j]?=some x->x.b.length<=100/\x.l.length<=20)/\Below w.heap.size w wr) (fun _ i _=>n - (intOf i).toNat)
 case atStart=>exact⟨0,aS,rfl,fun j x hj=>absurd hj aS,Below.refl _ _⟩
 case round=>
  obtain⟨k,hk,rfl,hsm,hbel⟩:=hrel;have Hsm:=aT hsm;clear hsm
  by_cases hlt:k<n
  · have hkl:k<l.length:=by rw[hlen.out];exact hlt
    have hbs:=hbel.size;obtain⟨x,hx⟩:∃ x,l[k]?=some x:=⟨_,ap hkl⟩;obtain⟨b,o,C,q,e,B,m,d,rfl,hb,e0,e1,e2,e3,hi,hqe,he,hr,hmd,hd,_,_,_⟩:=(hl.below hbel aX).2 k x hx;have hm:m<=9223372036854775807:=by unfold maxLen at hd;omega
    have hq:q<=9223372036854775807:=by unfold maxLen at he;omega
    have HX:=aT hx;have Hr:=aT hr.1;have Hi:=aT hi.1;simp only[Nat.add_zero] at e0;clear hx hr hd hi he
    by_cases hbig:20<q
    · have hno:Hid (gO l=false):=fewVB_no HX.out (.inr (by rw[Hi.out];exact hbig));go_wp2;go_ret;exact⟨dH hno.out.symm,ba⟩
    · by_cases hbig2:100<m
      · have hno:Hid (gO l=false):=fewVB_no HX.out (.inl (by rw[Hr.out];exact hbig2));go_wp2;go_ret;exact⟨dH hno.out.symm,ba⟩
      · have hsm2:Hid (∀ (j:Nat) (x:DoW),j<k+1->l[j]?=some x->x.b.length<=100/\x.l.length<=20):=fun j x hj hx=>by
         rcases az j k with q | q
         · exact Hsm.out j x q hx
         · have:j=k:=aS;subst this;rw[HX.out] at hx;injection hx with hx;rw[<- hx,Hr.out,Hi.out];omega
        go_wp2;go_roundw
        case rel=>exact⟨k+1,aS,by go_num,hsm2.out,ba⟩
        case measure=>simp[intOf];omega
  · have hk9:k=n:=aS;subst hk9;have hall:Hid (gO l=decide (k<=60)):=by
     show _=_
     rw[fewVB_all (fun j x hx=>Hsm.out j x (by rw[<- hlen.out];exact (List.getElem?_eq_some_iff.1 hx).1) hx),hlen.out]
    go_wp2;go_ret;exact⟨dH (by rw[hall.out];first | rfl | (simp;done) | (simp;omega)),ba⟩
open Go.RowKit
def jW (m:Nat)(p:PV)(pace:Int)(y:DoW)(st st':PGh)(v z:Int):Prop :=
 (gJ y.kind y.n y.l.length y.b.length=false/\z=2/\v=0/\st'=st)\/(gJ y.kind y.n y.l.length y.b.length=true/\jV m p pace y.kind y.n y.l st st' v z)
section
variable {w w0 w':World} {base gy m c c9 many n:Nat} {q:bB} {x:PA} {p:PV} {pace:Int} {st:PGh} {A:Option Addr} {evs:List DoW}
theorem RB.small {B:Option Addr}{m:Nat}{l:List UInt8}(h:RB w B m l)(h0:0<m):∀ g,B.map (·.block)=some g->g<w.heap.size:=by
 intro g hg;obtain⟨b,o,e,hb,_⟩:=h.2 h0;subst e;have:b=g:=by simpa using hg
 omega
theorem do_ev {R C:Option Addr}{r r' c1 c1':Nat}(y:DoW)(V:Env p m pace many)(h:PlSt w base gy q x p m c pace many st)
 (hl:RI w R r y.l) (hr:r<=maxLen) (hi:eE y.l) (hRB:∀ W,Below base w W->RB W C c1 y.b) (hC:0<c1->∀ g,C.map (·.block)=some g->g<base) (hc1:c1<=maxLen) (hn:y.n<=9223372036854775807) (hcb:c<7000000000000000000) :
 Ca 51 #[.pointer (some ⟨gy,0,none⟩),.agg #[I y.kind,I y.n,.slice R r r',.slice C c1 c1']] w fun e w'=>∃ v z,e=.returned (.agg #[I z,I v])/\Step mutP base q w w'/\∃ st',jW m p pace y st st' v z/\PlSt w' base gy q x p m (c+2000) pace many st':=by
 have hs:=h.hs;have e1:y.l.length=r:=hl.1;have e2:y.b.length=c1:=(hRB w (Below.refl _ _)).1;unfold jW;rw[e1,e2]
 cases hR:gJ y.kind y.n r c1 with
 | false=>
   obtain⟨gp,hp⟩:=h.pin;exact (do_bad hp.blk hR).mono fun e w' ⟨he,hb⟩=>⟨0,2,he,Step.of_below hb hs,st,.inl ⟨rfl,rfl,rfl,rfl⟩,(h.below hb).more aS⟩
 | true=>exact (do_st V h hR hl hr hi hRB hC hc1 hn hcb).mono fun e w' ⟨v,z,he,s,st',h1,h2⟩=>⟨v,z,he,s,st',.inr ⟨rfl,h1⟩,h2⟩
theorem all_st (V:Env p m pace many)(hl:DosW w0 A n evs)(hn:n<=60)(hb:Below w0.heap.size w0 w)(hbase:w0.heap.size<=base)(h:PlSt w base gy q x p m 2000 pace many st)
 {Iv:Nat->List (Int × Int)->PGh->Prop} (h0:Iv 0 [] st) (hI:∀ k y rs st st' v z,evs[k]?=some y->Iv k rs st->jW m p pace y st st' v z->Iv (k+1) (rs ++ [(z,v)]) st') :
 Ca 52 #[.pointer (some ⟨gy,0,none⟩),.slice A n c9] w fun e w'=>∃ A' c' rs st',e=.returned (.slice A' n c')/\OwS 2 rpE w' w.heap.size 100 A' n c' rs/\Iv n rs st'/\PlSt w' base gy q x p m (2000+2000 * n) pace many st'/\Step mutP base q w w':=by
 refine (plall_any (evs:=evs) (base:=base) (q:=q) (J:=fun k rs W=>k<=n/\∃ st',Iv k rs st'/\PlSt W base gy q x p m (2000+2000 * k) pace many st') aS hl.1 ⟨aS,st,h0,h⟩ (fun k rs W ⟨_,st',_,hst⟩=>⟨hst.hs,hst.disk⟩)
  (fun k rs W W' ⟨hk,st',h1,hst⟩ s hD=>⟨hk,st',h1,hst.stepM s hD aU aU aU⟩) ?_).mono fun e w' ⟨A',c',rs,he,ho,⟨_,st',h1,h2⟩,s⟩=>⟨A',c',rs,st',he,ho,h1,h2,s⟩
 intro k y hy;obtain⟨b,o,C,q1,e1,B,m1,c1,hA,hlt,c0,d1,d2,d3,hi,k1,k2,hr,k3,k4,b1,b2,b3⟩:=hl.2 k y hy;have hW:∀ W,Step mutP base q w W->Below w0.heap.size w0 W:=fun W s=>hb.trans (s.bel.mono hbase)
 have hcell:∀ W,Step mutP base q w W->∀ j,W.cell? ⟨b,j,none⟩=w0.cell? ⟨b,j,none⟩:=fun W s j=>(hW W s).cell (p:=⟨b,j,none⟩) hlt
 have hkn:k<n:=by
  obtain⟨hk,_⟩:=List.getElem?_eq_some_iff.1 hy;rw[hl.1] at hk;exact hk
 refine⟨b,o,C,q1,e1,B,m1,c1,hA,fun W s=>⟨Nat.lt_of_lt_of_le hlt (hW W s).size,(hcell W s _).trans c0,(hcell W s _).trans d1,(hcell W s _).trans d2,(hcell W s _).trans d3⟩,fun W rs ⟨_,st1,h1,hst⟩ s=>?_⟩;refine (do_ev y V hst (hi.below (hW W s) aX) aS b3 (fun W' hb'=>hr.below ((hW W s).trans (hb'.mono hbase)) aX) (fun h0 g hg=>Nat.lt_of_lt_of_le (hr.small h0 g hg) hbase) aS b2.2 aS).mono fun e w1 ⟨v,z,he,s1,st2,h2,h3⟩=>⟨v,z,he,s1,aS,st2,hI k y rs st1 st2 v z hy h1 h2,by rw[show 2000+2000 * (k+1)=2000+2000 * k+2000 by omega];exact h3⟩
end
def GhOk (m:Nat):PGh->Prop
 | .on _ rows tick rep=>tick<=rows.length/\rows.length<=m
 | .off k all ran=>0<=ran/\ran<=(k:Int)/\k<=all.length/\all.length<=m
 | .down k all ran=>0<=ran/\ran<=(k:Int)/\k<=all.length/\all.length<=m
section
variable {m:Nat} {p:PV} {pace:Int} {y:DoW} {st st':PGh} {v z:Int} {k0:Nat} {all:List (List Int)} {ran n:Int}
theorem jU.ok (h:jU pace n k0 all ran st' v z)(h0:0<=ran)(h1:ran<=(k0:Int))(h2:k0<=all.length)(h3:all.length<=m)(hm:m<=1024)(hp:pace<=1024):GhOk m st'/\0<=v/\v<=2048:=by
 rcases h with ⟨nx,_,n1,n2,n3,n4,rfl⟩ | ⟨_,rfl,_,k',nx,n1,n2,n3,rfl⟩
 · refine⟨⟨?_,?_⟩,n3,aS⟩ <;> rw[aB] <;> omega
 · refine⟨⟨h0,aS,?_,?_⟩,aS,aS⟩ <;> rw[aB] <;> omega
theorem jW.ok (h:jW m p pace y st st' v z)(hg:GhOk m st)(hm:m<=1024)(hp:pace<=1024):GhOk m st'/\0<=v/\v<=2048:=by
 rcases h with ⟨_,_,rfl,rfl⟩ | ⟨hR,h⟩
 · exact⟨hg,aS,aS⟩
 have hn:y.kind=2->0<=y.n:=fun e=>by have:=kJ.1 hR;omega
 cases st with
 | on armed rows tick rep=>
   obtain⟨g1,g2⟩:=hg;rcases h with ⟨_,⟨_,rfl,_,rfl⟩ | ⟨_,rfl,_,_,rfl⟩ | ⟨_,rfl,_,hl,rfl⟩ | ⟨_,rfl,_,hl,_,rfl⟩⟩ | ⟨e,⟨_,hv,rfl⟩ | ⟨_,v0,v1,_,rfl⟩⟩ | ⟨_,rfl,⟨_,rfl⟩ | ⟨_,_,rfl⟩⟩ | ⟨_,rfl,_,rfl⟩ | ⟨_,h⟩
   · exact⟨⟨g1,g2⟩,aS,aS⟩
   · exact⟨⟨g1,g2⟩,aS,aS⟩
   · exact⟨⟨by rw[aw];omega,by rw[aw,aF];omega⟩,aS,aS⟩
   · exact⟨⟨aS,aS,by rw[aw];omega,by rw[aw,aF];omega⟩,aS,aS⟩
   · have:=hn e;exact⟨⟨aS,g2⟩,aS,aS⟩
   · exact⟨⟨aS,aS,Nat.le_refl _,g2⟩,aS,aS⟩
   · exact⟨⟨g1,g2⟩,aS,aS⟩
   · exact⟨⟨aS,aS,Nat.le_refl _,g2⟩,aS,aS⟩
   · exact⟨⟨g1,g2⟩,aS,aS⟩
   · exact h.ok aS aS aX g2 hm hp
 | off k0 all ran=>
   obtain⟨g1,g2,g3,g4⟩:=hg;rcases h with ⟨_,_,rfl,rfl⟩ | ⟨_,rfl,_,rfl⟩ | ⟨_,h⟩
   · exact⟨⟨g1,g2,g3,g4⟩,aS,aS⟩
   · exact⟨⟨g1,g2,g3,g4⟩,aS,aS⟩
   · exact h.ok g1 g2 g3 g4 hm hp
 | down k0 all ran=>
   obtain⟨g1,g2,g3,g4⟩:=hg;rcases h with ⟨_,_,rfl,rfl⟩ | ⟨_,rfl,_,rfl⟩ | ⟨_,h⟩
   · exact⟨⟨g1,g2,g3,g4⟩,aS,aS⟩
   · exact⟨⟨g1,g2,g3,g4⟩,aS,aS⟩
   · exact h.ok g1 g2 g3 g4 hm hp
def kC (t1 t2 t6:Int):PGh->Prop
 | .on _ rows tick _=>t1<=(rows.length:Int)/\t2<=(tick:Int)+t6
 | .off k _ ran=>t1<=(k:Int)/\t2<=ran+t6
 | .down k _ ran=>t1<=(k:Int)/\t2<=ran+t6
theorem oy (h:jU pace n k0 all ran st' v z)(h1:t1<=(k0:Int))(h2:t2<=ran+t6)(hr:ran<=(k0:Int))(hk:k0<=all.length):kC t1 t2 (t6+(if z=0 then v else 0)) st':=by
 rcases h with ⟨nx,rfl,n1,n2,n3,n4,rfl⟩ | ⟨rfl,rfl,_,k',nx,n1,n2,n3,rfl⟩
 · rw[if_pos rfl];refine⟨?_,aS⟩;rw[aB];omega
 · rw[if_neg aS];exact⟨aS,aS⟩
theorem told_step (h:jW m p pace y st st' v z)(hg:GhOk m st)(ht:kC t1 t2 t6 st) :
 kC (t1+(if y.kind=1/\z=0 then 1 else 0)) (t2+(if y.kind=2 then v else 0)) (t6+(if y.kind=5/\z=0 then v else 0)) st':=by
 rcases h with ⟨_,rfl,rfl,rfl⟩ | ⟨hR,h⟩
 · simp only[show ¬ ((2:Int)=0) from by decide,show ¬ ((50:Int)=0) from by decide,show ¬ ((1:Int)=0) from by decide,and_false,if_false,ite_self,Int.add_zero];exact ht
 have hn:y.kind=2->0<=y.n:=fun e=>by have:=kJ.1 hR;omega
 cases st with
 | on armed rows tick rep=>
   obtain⟨g1,g2⟩:=hg;obtain⟨q1,q2⟩:=ht;rcases h with ⟨e,⟨rfl,rfl,_,rfl⟩ | ⟨rfl,rfl,_,_,rfl⟩ | ⟨rfl,rfl,_,hl,rfl⟩ | ⟨rfl,rfl,_,hl,_,rfl⟩⟩ | ⟨e,⟨rfl,hv,rfl⟩ | ⟨rfl,v0,v1,_,rfl⟩⟩ | ⟨e,rfl,⟨rfl,rfl⟩ | ⟨rfl,_,rfl⟩⟩ | ⟨e,rfl,rfl,rfl⟩ | ⟨e,h⟩
   all_goals (try rw[e])
   all_goals (try simp only[show ¬ ((1:Int)=2) from by decide,show ¬ ((1:Int)=5) from by decide,show ¬ ((2:Int)=1) from by decide,show ¬ ((2:Int)=5) from by decide,show ¬ ((3:Int)=1) from by decide,show ¬ ((3:Int)=2) from by decide,show ¬ ((3:Int)=5) from by decide,show ¬ ((4:Int)=1) from by decide,show ¬ ((4:Int)=2) from by decide,show ¬ ((4:Int)=5) from by decide,show ¬ ((5:Int)=1) from by decide,show ¬ ((5:Int)=2) from by decide,show ¬ ((41:Int)=0) from by decide,show ¬ ((52:Int)=0) from by decide,show ¬ ((50:Int)=0) from by decide,false_and,and_false,true_and,and_true,if_true,if_false,Int.add_zero])
   · exact⟨q1,q2⟩
   · exact⟨q1,q2⟩
   · refine⟨?_,q2⟩;rw[aw,aF];omega
   · exact⟨q1,q2⟩
   · have:=hn e;exact⟨q1,aS⟩
   · exact⟨q1,aS⟩
   · exact⟨q1,q2⟩
   · exact⟨q1,q2⟩
   · exact⟨q1,q2⟩
   · exact oy h q1 q2 aS aX
 | off k0 all ran=>
   obtain⟨g1,g2,g3,g4⟩:=hg;obtain⟨q1,q2⟩:=ht;rcases h with ⟨_,rfl,rfl,rfl⟩ | ⟨e,rfl,rfl,rfl⟩ | ⟨e,h⟩
   · simp only[show ¬ ((2:Int)=0) from by decide,show ¬ ((50:Int)=0) from by decide,show ¬ ((1:Int)=0) from by decide,and_false,if_false,ite_self,Int.add_zero];exact⟨q1,q2⟩
   · rw[if_neg aS,if_neg aS,if_neg aS,Int.add_zero,Int.add_zero,Int.add_zero];exact⟨q1,q2⟩
   · rw[if_neg aS,if_neg aS,e,Int.add_zero,Int.add_zero];simp only[true_and];exact oy h q1 q2 g2 g3
 | down k0 all ran=>
   obtain⟨g1,g2,g3,g4⟩:=hg;obtain⟨q1,q2⟩:=ht;rcases h with ⟨_,rfl,rfl,rfl⟩ | ⟨e,rfl,rfl,rfl⟩ | ⟨e,h⟩
   · simp only[show ¬ ((2:Int)=0) from by decide,show ¬ ((50:Int)=0) from by decide,show ¬ ((1:Int)=0) from by decide,and_false,if_false,ite_self,Int.add_zero];exact⟨q1,q2⟩
   · rw[if_neg aS,if_neg aS,if_neg aS,Int.add_zero,Int.add_zero,Int.add_zero];exact⟨q1,q2⟩
   · rw[if_neg aS,if_neg aS,e,Int.add_zero,Int.add_zero];simp only[true_and];exact oy h q1 q2 g2 g3
end
def kSeq (evs:List DoW)(i:Nat):Int:=(evs[i]?.map (·.kind)).getD 0
def eSeq (rs:List (Int × Int))(i:Nat):Int:=(rs[i]?.map (·.1)).getD 0
def nSeq (rs:List (Int × Int))(i:Nat):Int:=(rs[i]?.map (·.2)).getD 0
theorem one_sum (k e n:Int):oneT k e n 8+oneT k e n 9+oneT k e n 1+oneT k e n 3+oneT k e n 5<=1:=by
 show (if e=41\/e=52\/e=2 then (1:Int) else 0)+(if e=50\/e=1 then 1 else 0)+(if k=1/\e=0 then 1 else 0)+(if k=3/\e=0 then 1 else 0)+(if k=5/\e=0 then 1 else 0)<=1
 repeat' split
 all_goals omega
theorem one_le (k e n:Int)(h0:0<=n)(h1:n<=2048)(j:Nat):0<=oneT k e n j/\oneT k e n j<=2048:=by
 unfold oneT
 repeat' split
 all_goals omega
structure StI (evs:List DoW)(m k:Nat)(rs:List (Int × Int))(st:PGh):Prop where
 len:rs.length=k
 gh:GhOk m st
 nb:∀ x ∈ rs,0<=x.2/\x.2<=2048
 t0:ofN (kSeq evs) (eSeq rs) (nSeq rs) k 0=(k:Int)
 tb:∀ j,0<=ofN (kSeq evs) (eSeq rs) (nSeq rs) k j/\ofN (kSeq evs) (eSeq rs) (nSeq rs) k j<=2048 * (k:Int)
 t5:ofN (kSeq evs) (eSeq rs) (nSeq rs) k 5<=ofN (kSeq evs) (eSeq rs) (nSeq rs) k 4
 t7:ofN (kSeq evs) (eSeq rs) (nSeq rs) k 7<=ofN (kSeq evs) (eSeq rs) (nSeq rs) k 6
 ts:ofN (kSeq evs) (eSeq rs) (nSeq rs) k 8+ofN (kSeq evs) (eSeq rs) (nSeq rs) k 9+ofN (kSeq evs) (eSeq rs) (nSeq rs) k 1+ofN (kSeq evs) (eSeq rs) (nSeq rs) k 3+ofN (kSeq evs) (eSeq rs) (nSeq rs) k 5<=ofN (kSeq evs) (eSeq rs) (nSeq rs) k 0
 told:kC (ofN (kSeq evs) (eSeq rs) (nSeq rs) k 1) (ofN (kSeq evs) (eSeq rs) (nSeq rs) k 2) (ofN (kSeq evs) (eSeq rs) (nSeq rs) k 6) st
section
variable {evs:List DoW} {m k:Nat} {rs:List (Int × Int)} {st st':PGh} {p:PV} {pace:Int} {y:DoW} {v z:Int}
theorem StI.start (h:GhOk m st)(hst:kC 0 0 0 st):StI evs m 0 [] st:=⟨rfl,h,fun x hx=>by simp at hx,rfl,fun j=>⟨Int.le_refl _,by simp[ofN]⟩,Int.le_refl _,Int.le_refl _,by simp[ofN],hst⟩
theorem StI.step (h:StI evs m k rs st)(hy:evs[k]?=some y)(hs:jW m p pace y st st' v z)(hm:m<=1024)(hp:pace<=1024)(hk:k<=1000):StI evs m (k+1) (rs ++ [(z,v)]) st':=by
 obtain⟨g1,v0,v1⟩:=hs.ok h.gh hm hp;have ht:=told_step hs h.gh h.told;have hlen:=h.len;have hc:ofN (kSeq evs) (eSeq (rs ++ [(z,v)])) (nSeq (rs ++ [(z,v)])) k=ofN (kSeq evs) (eSeq rs) (nSeq rs) k:=ofN_congr k fun i hi=>by
  have e:(rs ++ [(z,v)])[i]?=rs[i]?:=aO aS;exact⟨rfl,by unfold eSeq;rw[e],by unfold nSeq;rw[e]⟩
 have hl:(rs ++ [(z,v)])[k]?=some (z,v):=by rw[aJ aS,hlen,Nat.sub_self];rfl
 have hT:ofN (kSeq evs) (eSeq (rs ++ [(z,v)])) (nSeq (rs ++ [(z,v)])) (k+1)=addT (ofN (kSeq evs) (eSeq rs) (nSeq rs) k) y.kind z v:=by
  show addT (ofN (kSeq evs) (eSeq (rs ++ [(z,v)])) (nSeq (rs ++ [(z,v)])) k) (kSeq evs k) (eSeq (rs ++ [(z,v)]) k) (nSeq (rs ++ [(z,v)]) k)=_
  rw[hc];unfold kSeq eSeq nSeq;rw[hy,hl]
  rfl
 obtain⟨_,_,nb,t0,tb,t5,t7,ts,told⟩:=h;generalize ofN (kSeq evs) (eSeq rs) (nSeq rs) k=T at *;have hj:∀ j,j≠7->addT T y.kind z v j=T j+oneT y.kind z v j:=fun j hj=>by
  unfold addT dO;rw[if_neg hj,fH hj];have:=tb j;have:=one_le y.kind z v v0 v1 j;exact wrap64_in aS
 have h7:addT T y.kind z v 7=max (T 7) (if y.kind=5/\z=0 then v else T 7):=by
  unfold addT dO;rw[if_pos rfl,moreT7]
 have o1:oneT y.kind z v 1=if y.kind=1/\z=0 then 1 else 0:=rfl;have o2:oneT y.kind z v 2=if y.kind=2 then v else 0:=rfl;have o6:oneT y.kind z v 6=if y.kind=5/\z=0 then v else 0:=rfl;have o0:oneT y.kind z v 0=1:=rfl;have o45:oneT y.kind z v 5<=oneT y.kind z v 4:=by
  show (if y.kind=5/\z=0 then (1:Int) else 0)<=(if y.kind=5 then 1 else 0)
  repeat' split
  all_goals omega
 have os:=one_sum y.kind z v;have b6:=(tb 6).1;have b7:=tb 7;refine⟨by rw[aw,aF,hlen],g1,fun x hx=>?_,?_,fun j=>?_,?_,?_,?_,?_⟩
 · rcases List.mem_append.1 hx with q | q
   · exact nb x q
   · obtain rfl:x=(z,v):=by simpa using q
     exact⟨v0,v1⟩
 all_goals rw[hT]
 · rw[hj 0 aS,o0,t0];push_cast;rfl
 · by_cases e:j=7
   · subst e;rw[h7]
     split <;> push_cast <;> omega
   · rw[hj j e];have:=tb j;have:=one_le y.kind z v v0 v1 j
     push_cast
     omega
 · rw[hj 5 aS,hj 4 aS];omega
 · rw[h7,hj 6 aS,o6]
   split <;> omega
 · rw[hj 8 aS,hj 9 aS,hj 1 aS,hj 3 aS,hj 5 aS,hj 0 aS,o0];omega
 · rw[hj 1 aS,hj 2 aS,hj 6 aS,o1,o2,o6];exact ht
end
end Go.Proofs.YtmeebofhlilcmaaGreat
