/- Parts. -/
import Derived.Test.YtmeebofhlilcmaaGreatPr37
set_option linter.unusedVariables false
set_option linter.unusedSimpArgs false
set_option maxRecDepth 100000
set_option maxHeartbeats 0
namespace Go.Proofs.YtmeebofhlilcmaaGreat
variable {k e:Nat} {ran:Int} {D:aX} {gp B:Option Addr} {may:List (List Int)}
open Go.RowKit Go.WideShapes Go.ChangeShapes Go.Deep Go.Joins
section
variable {H:Type} {enc:TypeId × Value→H} {w:World} {base b0:Nat} {held:Bool} {r:Reach} {v:Value} {d:DataW H} {ps:List MemPlace}
theorem args_dos38 (hval:Value.okWide Tryz.prog w r b0 69 v)(hd:DataW.Trod enc Tryz.prog w base (fun _=>true) held 69 v d ps) :
 ∃ A n c l,v=.slice A n c/\DosW w A n l/\n<=c/\c<=maxLen:=by
 obtain⟨A,n,c,rfl,hn,hc,hat⟩:=open_structs (k:=4) Tryz.underlying69 Tryz.underlying75 bP bP rfl aS hval hd;have hx:∀ i,i<n->∃ x:DoW,∃ b o C q e B m c,A=some ⟨b,o,none⟩/\b<w.heap.size/\w.cell? ⟨b,o+i * 4+0,none⟩=some (I x.kind)/\w.cell? ⟨b,o+i * 4+1,none⟩=some (I x.n)/\w.cell? ⟨b,o+i * 4+2,none⟩=some (.slice C q e)/\w.cell? ⟨b,o+i * 4+3,none⟩=some (.slice B m c) /\
  RI w C q x.l/\q<=e/\e<=maxLen/\RB w B m x.b/\m<=c/\c<=maxLen/\(-9223372036854775808<=x.kind/\x.kind<=9223372036854775807)/\(-9223372036854775808<=x.n/\x.n<=9223372036854775807)/\eV x.l:=by
  intro i hi;obtain⟨b,o,vs,hA,hb,hl,hcell,fuel,hf⟩:=hat i hi;obtain⟨u0,y0,e0,t0⟩:=hf 0 _ rfl;obtain⟨u1,y1,e1,t1⟩:=hf 1 _ rfl;obtain⟨u2,y2,e2,t2⟩:=hf 2 _ rfl;obtain⟨u3,y3,e3,t3⟩:=hf 3 _ rfl;obtain⟨z0,hz0,_,hw0⟩:=DataW.trod_int Tryz.underlying3 t0;obtain⟨z1,hz1,_,hw1⟩:=DataW.trod_int Tryz.underlying3 t1;have hz0:u0=I z0:=by simpa using hz0
  have hz1:u1=I z1:=by simpa using hz1
  subst hz0 hz1;obtain⟨C,q,c2,li,rfl,r2,k2,m2,hin⟩:=n7 Tryz.underlying22 Tryz.underlying3 bP t2;obtain⟨B,m,c',l,rfl,r1,k1,m1⟩:=trod_bytes Tryz.underlying27 Tryz.underlying5 bP t3;exact⟨⟨z0,z1,li,l⟩,b,o,C,q,c2,B,m,c',hA,hb,(hcell 0 aS).trans e0,(hcell 1 aS).trans e1,(hcell 2 aS).trans e2,(hcell 3 aS).trans e3,r2,k2,m2,r1,k1,m1,bounds_i64 hw0,bounds_i64 hw1,intOk_of hin⟩
 obtain⟨l,hl,hp⟩:=list_of hx;exact⟨A,n,c,l,rfl,⟨hl,hp⟩,hn,hc⟩
end
def fP (l:List DoW):Bool:=l.all (fun x=>decide (x.b.length<=200) && decide (x.l.length<=20)) && decide (l.length<=30)
theorem qG {l:List DoW}(h:fP l=true):l.length<=30/\∀ x ∈ l,x.b.length<=200/\x.l.length<=20:=by
 unfold fP at h;rw[av,List.all_eq_true,aq] at h;refine⟨h.2,fun x hx=>?_⟩;have:=h.1 x hx;rw[av,aq,aq] at this;exact this
theorem fewXB_no {l:List DoW}{x:DoW}(hx:l[k]?=some x)(h:200<x.b.length\/20<x.l.length):fP l=false:=by
 cases hq:fP l with
 | false=>rfl
 | true=>have:=(qG hq).2 x (List.mem_of_getElem? hx);omega
theorem fewXB_all {l:List DoW}(h:∀ (k:Nat) (x:DoW),l[k]?=some x->x.b.length<=200/\x.l.length<=20):fP l=decide (l.length<=30):=by
 unfold fP;rw[show l.all (fun x=>decide (x.b.length<=200) && decide (x.l.length<=20))=true from by
  rw[List.all_eq_true];intro x hx;obtain⟨k,hk⟩:=List.getElem?_of_mem hx;rw[av,aq,aq];exact h k x hk,Bool.true_and]
theorem few38_any (A:Option Addr)(n c:Nat)(l:List DoW)(w:World)(hl:DosW w A n l)(hn:n<=maxLen) :
 Ca 37 #[.slice A n c] w fun e w'=>e=.returned (.bool (fP l))/\Below w.heap.size w w':=by
 have hlen:=aT hl.1;unfold maxLen at hn;go_enter Tryz.func37,Tryz.ntmps37;go_wp2;go_loopw [4,7] (fun _ i wr=>∃ k:Nat,k<=n/\i=I (k:Nat)/\(∀ (j:Nat) (x:DoW),j<k->l[j]?=some x->x.b.length<=200/\x.l.length<=20)/\Below w.heap.size w wr) (fun _ i _=>n - (intOf i).toNat)
 case atStart=>exact⟨0,aS,rfl,fun j x hj=>absurd hj aS,Below.refl _ _⟩
 case round=>
  obtain⟨k,hk,rfl,hsm,hbel⟩:=hrel;have Hsm:=aT hsm;clear hsm
  by_cases hlt:k<n
  · have hkl:k<l.length:=by rw[hlen.out];exact hlt
    have hbs:=hbel.size;obtain⟨x,hx⟩:∃ x,l[k]?=some x:=⟨_,ap hkl⟩;obtain⟨b,o,C,q,e,B,m,d,rfl,hb,e0,e1,e2,e3,hi,hqe,he,hr,hmd,hd,_,_,_⟩:=(hl.below hbel aW).2 k x hx;have hm:m<=9223372036854775807:=by unfold maxLen at hd;omega
    have hq:q<=9223372036854775807:=by unfold maxLen at he;omega
    have HX:=aT hx;have Hr:=aT hr.1;have Hi:=aT hi.1;simp only[Nat.add_zero] at e0;clear hx hr hd hi he
    by_cases hbig:200<m
    · have hno:Hid (fP l=false):=fewXB_no HX.out (.inl (by rw[Hr.out];exact hbig));go_wp2;go_ret;exact⟨cO hno.out.symm,bc⟩
    · by_cases hbig2:20<q
      · have hno:Hid (fP l=false):=fewXB_no HX.out (.inr (by rw[Hi.out];exact hbig2));go_wp2;go_ret;exact⟨cO hno.out.symm,bc⟩
      · have hsm2:Hid (∀ (j:Nat) (x:DoW),j<k+1->l[j]?=some x->x.b.length<=200/\x.l.length<=20):=fun j x hj hx=>by
         rcases aw j k with q | q
         · exact Hsm.out j x q hx
         · have:j=k:=aS;subst this;rw[HX.out] at hx;injection hx with hx;rw[<- hx,Hr.out,Hi.out];omega
        go_wp2;go_roundw
        case rel=>exact⟨k+1,aS,by go_num,hsm2.out,bc⟩
        case measure=>simp[intOf];omega
  · have hk9:k=n:=aS;subst hk9;have hall:Hid (fP l=decide (k<=30)):=by
     show _=_
     rw[fewXB_all (fun j x hx=>Hsm.out j x (by rw[<- hlen.out];exact (List.getElem?_eq_some_iff.1 hx).1) hx),hlen.out]
    go_wp2;go_ret;exact⟨cO (by rw[hall.out];first | rfl | (simp;done) | (simp;omega)),bc⟩
open Go.RowKit
section
variable {w w':World} {base lim N:Nat} {B:Option Addr} {Ls:List (List Int)} {p:bC} {D:aX}
theorem wp_row {o:Oper}{a:Act}{K:Act->World->Prop}{Q:Exit->Act->World->Prop}{s x:Operand}{h:SlV}{L:List Int}{g:Nat}
 (ho:o.op=.call { callee:=.builtin .append,args:=#[s,x],argTypes:=#[57,57] })
 (hs:a.eval s=.slice B N N) (H:ea w base base B N N Ls)
 (hx:a.eval x=.slice (some ⟨g,0,none⟩) 1 1) (hr:Rd slV w (some ⟨g,0,none⟩) 1 [h]) (hL:cu w base h.a h.n L)
 (h63:N<=1000000) (hbase:base<=w.heap.size)
 (hK:∀ A' c' w',ea w' base base A' (N+1) c' (Ls ++ [L])->Below w.heap.size w w'->K (a.put o.dst (.slice A' (N+1) c')) w'):o.wp Tryz.prog a w K Q:=by
 obtain⟨a1,a2,a3,hds,hi,hcase⟩:=H;have hrd:Rd slV w B N hds:=by
  rcases hcase with q | q
  · exact q.rd
  · exact q.2.1
 have hinew:∀ {w':World} {A':Option Addr} {c':Nat},Ow slV w' base 22 A' (N+1) c' (hds ++ [h])->Below w.heap.size w w'->ea w' base base A' (N+1) c' (Ls ++ [L]):=fun hw hb=>by
  have hc:=hw.cap;refine⟨by simp[a1],hc.1,hc.2,hds ++ [h],fun k y Y q1 q2=>?_,.inl hw⟩;rcases aw k N with hk | hk
  · rw[aN (by rw[hrd.1];omega)] at q1;rw[aN aS] at q2;exact (hi k y Y q1 q2).below hb
  · have hk9:k=N:=by
     have:=(List.getElem?_eq_some_iff.1 q1).1;rw[az,hrd.1,aJ] at this;omega
    subst hk9;rw[aI (by rw[hrd.1];omega),hrd.1,Nat.sub_self] at q1;rw[aI aS,a1,Nat.sub_self] at q2;simp only[List.getElem?_cons_zero,Option.some.injEq] at q1 q2;subst q1 q2;exact hL.below hb
 obtain⟨ht,⟨i,hi',hz,hsize,hby⟩,hzs,hsz⟩:=kJ;have hnews:∀ (j:Nat) (u:Value),[slV h][j]?=some u->w.cell? ((⟨g,0,none⟩:Addr).add j)=some u:=fun j u hj=>hr.rowL.at_add rfl j u (by simpa using hj)
 have h1c:∀ u ∈ [slV h],u.oneCell'=true:=by intro u hu;rw[List.mem_singleton] at hu;subst hu;rfl
 have hend:∀ v' w',w'.ownsRow w.heap.size 22 1 v' (N+1) (hds.map slV ++ [slV h])->w.grownBy w' none->K (a.put o.dst v') w':=fun v' w' h1 h2=>by
  have hb:Below w.heap.size w w':=(Below.refl _ _).grown h2 aW (fun k hk=>by cases hk);obtain⟨A',c',rfl,hc1,hc2⟩:=kL h1;have how:Ow slV w' w.heap.size 22 A' (N+1) c' (hds ++ [h]):=⟨by rw[az,hrd.1];rfl,by rw[List.map_append];exact h1⟩;exact hK A' c' w' (hinew (how.rebase hbase) hb) hb
 cases B with
 | some b=>
   obtain⟨v',w',hrun,r1,r2⟩:=run_append_arg_grows (P:=Tryz.prog) w 57 o.type 22 i _ 1 24 ht hi' hz hsize hby hzs hsz b N N (hds.map slV) (by rw[ay,hrd.1];omega) (fun j u hj=>by
    have hjl:j<N:=by
     have:=(List.getElem?_eq_some_iff.1 hj).1;rw[ay,hrd.1] at this;exact this
    exact hrd.rowL.at_add rfl j u hj) ⟨g,0,none⟩ 1 1 [slV h] rfl hnews aS bM aS
   unfold Oper.wp;simp[execOp,ho,resolve,invoke,builtin,hs,hx,hrun,Result.andThen];exact hend _ _ r1 r2
 | none=>
   have hN0:N=0:=by
    rcases aH N with h0 | h0
    · exact h0
    · obtain⟨b,o',e,_⟩:=hrd.2 h0
      cases e
   subst hN0;have hnil:hds=[]:=List.eq_nil_of_length_eq_zero hrd.1;subst hnil;obtain⟨v',w',hrun,r1,r2,_⟩:=run_append_own (P:=Tryz.prog) w w.heap.size 57 o.type 22 i _ 1 24 ht hi' hz hsize hby hzs hsz (.slice none 0 0) 0 [] (World.ownsRow_nil w _ 22 1) ⟨g,0,none⟩ 1 1 [slV h] rfl hnews h1c bM aS aW;unfold Oper.wp;simp[execOp,ho,resolve,invoke,builtin,hs,hx,hrun,Result.andThen];exact hend _ _ r1 r2
end
section
variable {w w':World} {base gy g m cc many n c tick:Nat} {q:bC} {p:PV} {pace rep kd N:Int} {S:List (List Int)} {x:PA} {A C Bx:Option Addr} {calm:Bool} {nq e9 nb nd:Nat} {l:List Int}
def StepR (w':World)(base gy:Nat)(q:bC)(x:PA)(p:PV)(m cc:Nat)(pace:Int)(many:Nat):Prop :=
 (∃ g A n c tick rep calm S,dH w' base gy q x p pace (some ⟨g,0,none⟩) A n c none 0 0 (tick:Nat) S []/\StOn w' base q g p m (cc+2000) pace many calm S tick rep) \/
 (∃ g A n c B k e ran S may,dH w' base gy q x p pace (some ⟨g,0,none⟩) A n c B k e ran S may/\gu w' base q g p m (cc+2000) pace many n (S ++ may) ran/\0<=ran/\ran<=100)
theorem gu.playSet {k0:Nat}{all:List (List Int)}{cs:List Value}(h:gu w base q g p m cc pace many k0 all ran)(Y:Blk w gy 73 cs)(h0:base<=gy)(i:Nat)(u:Value):gu (w.setCell ⟨gy,i,none⟩ u) base q g p m cc pace many k0 all ran:=by
 have hs:=h.hs;obtain⟨D,E,e,hd,hi,h2⟩:=h.ex;have t:=Step.playSet (q:=q) Y h0 hs i u;exact⟨ag hs t.size,D,E,e,hd.other Y aV u,⟨hd.blk hi.b t.tch aV,hi.gb,hi.r.step hd t aV⟩,h2⟩
theorem run_neg {e:EP}{E:EgV}{hash:Int}(h:cH w base q g e m p hash pace E)(ho:E.off=false)(most:Int)(hm:most<0):Ca 33 #[.pointer (some ⟨g,0,none⟩),I most] w fun e' w'=>e'=.returned (.tuple #[I 0,I 2])/\w=w':=by
 have hr:=nz h;rw[ho,if_neg ba] at hr;have d1:decide (most<0)=true:=am hm;clear h ho hm;go_enter Tryz.func33,Tryz.ntmps33;go_wp2_with (first | (go_at_call 122;(with_reducible refine (hr).mono ?_);rintro e1 w1 ⟨rfl,rfl⟩) | fail);go_ret2;exact⟨rfl,rfl⟩
theorem lA {w W:World}(hW:W=w.alloc (.cells #[I kd,I N,.slice C nq e9,.slice Bx nb nd] 75)):Below w.heap.size w W/\Blk W w.heap.size 75 [I kd,I N,.slice C nq e9,.slice Bx nb nd]:=by
 subst hW;exact⟨bc,bK⟩
theorem step_cut (hO:StOn w base q g p m cc pace many calm S tick rep)(Y:dH w base gy q x p pace (some ⟨g,0,none⟩) A n c none 0 0 (tick:Nat) S [])(hN:N<=9223372036854775807) :
 Ca 38 #[.pointer (some ⟨gy,0,none⟩),.agg #[I 4,I N,.slice C nq e9,.slice Bx nb nd]] w fun e' w'=>e'=.returned (.bool true)/\StepR w' base gy q x p m cc pace many/\Bel2 base w w':=by
 have hs:=hO.hs;have HY:=aT Y;have HO:=aT hO;have F0:=fun W hW=>lA (kd:=4) (N:=N) (C:=C) (nq:=nq) (e9:=e9) (Bx:=Bx) (nb:=nb) (nd:=nd) (w:=w) (W:=W) hW
 clear hO Y;go_enter Tryz.func38,Tryz.ntmps38;go_upto_region 1 with fail;refine eG (fun W=>Below w.heap.size w W/\Blk W w.heap.size 75 [I 4,I N,.slice C nq e9,.slice Bx nb nd]) (F0 _ rfl) ?_;clear F0;rintro w1 ⟨hb1,hx1⟩;have Y1:=aT (HY.out.below hb1 hs);have O1:=aT (HO.out.below hb1);have B1:=aT (Bel2.of hb1 hs);have X1:=aT hx1;have hgx:base<=w.heap.size:=hs;have HBL:Hid (∀ (C:Option Addr) (nq:Nat) (l:List Int),cu w base C nq l->cu w1 base C nq l):=fun _ _ _ h=>h.below hb1
 clear HY HO hb1 hx1;generalize w.heap.size=gx at *;obtain⟨y0,_,_,_,_,_,_,y7,y8,y9,y10⟩:=eW Y1.out.blk;have z0:=X1.out.c0;have z1:=X1.out.c1;have z2:=X1.out.c2;have b29:Below w1.heap.size w1 w1.drew:=Below.drew (Below.refl _ _);have c2:=t_cut (O1.out.below b29) N hN;go_upto_region 22 with fail;go_region_held3 (fun w'=>w'.cell? ⟨gy,0,none⟩=some (.pointer (some ⟨q.d,0,none⟩))/\w'.cell? ⟨gx,1,none⟩=some (I N)) (first | go_keep | (refine⟨?_,?_⟩ <;> assumption)) (first | ((go_at_call 42;(with_reducible refine (c2).mono ?_);rintro e w3 ⟨rfl,o3,s3⟩);obtain⟨D9,hd9⟩:=(O1.out.below b29).disk;have Y3:=aT ((Y1.out.below b29 O1.out.hs).step hd9 s3);have B3:=aT (B1.out.trans ((Bel2.of b29 O1.out.hs).trans (Bel2.step hd9 s3)));have O3:=aT o3;have X3:=hd9.blk (X1.out.below b29 X1.out.lt) s3.tch aV;clear hd9 o3 s3 y0 y7 y8 y9 y10 z0 z1 z2;obtain⟨y0,_,_,_,_,_,_,y7,y8,y9,y10⟩:=eW Y3.out.blk;have z1:=X3.c1) | fail);go_wp2_with fail;go_ret;exact⟨rfl,.inl ⟨g,A,n,c,tick,rep,_,S,Y3.out,O3.out.more aS⟩,B3.out⟩
theorem step_save (V:Env p m pace many)(hO:StOn w base q g p m cc pace many calm S tick rep)(Y:dH w base gy q x p pace (some ⟨g,0,none⟩) A n c none 0 0 (tick:Nat) S [])(hcb:cc<7000000000000000000)(hS:S.length<=100) :
 Ca 38 #[.pointer (some ⟨gy,0,none⟩),.agg #[I 3,I N,.slice C nq e9,.slice Bx nb nd]] w fun e' w'=>e'=.returned (.bool true)/\StepR w' base gy q x p m cc pace many/\Bel2 base w w':=by
 have hs:=hO.hs;have HY:=aT Y;have HO:=aT hO;have F0:=fun W hW=>lA (kd:=3) (N:=N) (C:=C) (nq:=nq) (e9:=e9) (Bx:=Bx) (nb:=nb) (nd:=nd) (w:=w) (W:=W) hW
 clear hO Y;go_enter Tryz.func38,Tryz.ntmps38;go_upto_region 1 with fail;refine eG (fun W=>Below w.heap.size w W/\Blk W w.heap.size 75 [I 3,I N,.slice C nq e9,.slice Bx nb nd]) (F0 _ rfl) ?_;clear F0;rintro w1 ⟨hb1,hx1⟩;have Y1:=aT (HY.out.below hb1 hs);have O1:=aT (HO.out.below hb1);have B1:=aT (Bel2.of hb1 hs);have X1:=aT hx1;have hgx:base<=w.heap.size:=hs;have HBL:Hid (∀ (C:Option Addr) (nq:Nat) (l:List Int),cu w base C nq l->cu w1 base C nq l):=fun _ _ _ h=>h.below hb1
 clear HY HO hb1 hx1;generalize w.heap.size=gx at *;obtain⟨y0,_,_,_,_,_,_,y7,y8,y9,y10⟩:=eW Y1.out.blk;have z0:=X1.out.c0;have z1:=X1.out.c1;have z2:=X1.out.c2;have htk:=O1.out.le.1;have hSn:=Y1.out.sure.len.1;have c2:=t_save V O1.out hcb;obtain⟨D9,hd9⟩:=O1.out.disk;go_upto_region 19 with (first | ((go_at_call 32;(with_reducible refine (c2).mono ?_);rintro e w3 ⟨s3,z,rfl,o3⟩);have Y3:=aT (Y1.out.step hd9 s3);have B3:=aT (B1.out.trans (Bel2.step hd9 s3));have O3:=aT o3;clear o3 s3) | fail);rcases O3.out with ⟨rfl,o4⟩ | ⟨rfl,_,o4⟩
 · have O4:=aT o4;clear o4 O3;go_wp2_with fail;go_ret;exact⟨rfl,.inl ⟨g,A,n,c,tick,rep,_,S,Y3.out,O4.out⟩,B3.out⟩
 · have O4:=aT o4;clear o4 O3;go_wp2_with fail;go_ret;refine⟨rfl,.inr ⟨g,A,n,c,none,0,0,(tick:Int),S,[],Y3.out,?_,aS,aS⟩,B3.out⟩;rw[List.append_nil];have:=O4.out
   rwa [hSn] at this
theorem step_none (hO:StOn w base q g p m cc pace many calm S tick rep)(Y:dH w base gy q x p pace (some ⟨g,0,none⟩) A n c none 0 0 (tick:Nat) S [])(k1:(kd == 1)=false)(k2:(kd == 2)=false)(k3:(kd == 3)=false)(k4:(kd == 4)=false) :
 Ca 38 #[.pointer (some ⟨gy,0,none⟩),.agg #[I kd,I N,.slice C nq e9,.slice Bx nb nd]] w fun e' w'=>e'=.returned (.bool true)/\StepR w' base gy q x p m cc pace many/\Bel2 base w w':=by
 have hs:=hO.hs;have HY:=aT Y;have HO:=aT hO;have F0:=fun W hW=>lA (kd:=kd) (N:=N) (C:=C) (nq:=nq) (e9:=e9) (Bx:=Bx) (nb:=nb) (nd:=nd) (w:=w) (W:=W) hW
 clear hO Y;go_enter Tryz.func38,Tryz.ntmps38;go_upto_region 1 with fail;refine eG (fun W=>Below w.heap.size w W/\Blk W w.heap.size 75 [I kd,I N,.slice C nq e9,.slice Bx nb nd]) (F0 _ rfl) ?_;clear F0;rintro w1 ⟨hb1,hx1⟩;have Y1:=aT (HY.out.below hb1 hs);have O1:=aT (HO.out.below hb1);have B1:=aT (Bel2.of hb1 hs);have X1:=aT hx1;have hgx:base<=w.heap.size:=hs;have HBL:Hid (∀ (C:Option Addr) (nq:Nat) (l:List Int),cu w base C nq l->cu w1 base C nq l):=fun _ _ _ h=>h.below hb1
 clear HY HO hb1 hx1;generalize w.heap.size=gx at *;obtain⟨y0,_,_,_,_,_,_,y7,y8,y9,y10⟩:=eW Y1.out.blk;have z0:=X1.out.c0;have z1:=X1.out.c1;have z2:=X1.out.c2;go_wp2_with fail;go_ret;exact⟨rfl,.inl ⟨g,A,n,c,tick,rep,_,S,Y1.out,O1.out.more aS⟩,B1.out⟩
theorem dH.setRan (h:dH w base gy q x p pace gp A n c B k e ran S may)(hd:bj w base q D)(hs:base<=w.heap.size)(r':Int):dH (w.setCell ⟨gy,10,none⟩ (I r')) base gy q x p pace gp A n c B k e r' S may :=
 ⟨h.blk.set_ 10 (I r'),h.sure.playSet hd h.blk h.gy0 hs 10 (I r'),h.may.playSet hd h.blk h.gy0 hs 10 (I r'),fun W hb=>h.pr W (((Below.refl base w).setCell (p:=⟨gy,10,none⟩) h.gy0 (I r')).trans hb),h.gy0⟩
theorem step_run (V:Env p m pace many)(hO:StOn w base q g p m cc pace many calm S tick rep)(Y:dH w base gy q x p pace (some ⟨g,0,none⟩) A n c none 0 0 (tick:Nat) S [])(hcb:cc<7000000000000000000)(hS:S.length<=100)(hN0:0<=N) :
 Ca 38 #[.pointer (some ⟨gy,0,none⟩),.agg #[I 2,I N,.slice C nq e9,.slice Bx nb nd]] w fun e' w'=>e'=.returned (.bool true)/\StepR w' base gy q x p m cc pace many/\Bel2 base w w':=by
 have hs:=hO.hs;have HY:=aT Y;have HO:=aT hO;have F0:=fun W hW=>lA (kd:=2) (N:=N) (C:=C) (nq:=nq) (e9:=e9) (Bx:=Bx) (nb:=nb) (nd:=nd) (w:=w) (W:=W) hW
 clear hO Y;go_enter Tryz.func38,Tryz.ntmps38;go_upto_region 1 with fail;refine eG (fun W=>Below w.heap.size w W/\Blk W w.heap.size 75 [I 2,I N,.slice C nq e9,.slice Bx nb nd]) (F0 _ rfl) ?_;clear F0;rintro w1 ⟨hb1,hx1⟩;have Y1:=aT (HY.out.below hb1 hs);have O1:=aT (HO.out.below hb1);have B1:=aT (Bel2.of hb1 hs);have X1:=aT hx1;have hgx:base<=w.heap.size:=hs;have HBL:Hid (∀ (C:Option Addr) (nq:Nat) (l:List Int),cu w base C nq l->cu w1 base C nq l):=fun _ _ _ h=>h.below hb1
 clear HY HO hb1 hx1;generalize w.heap.size=gx at *;obtain⟨y0,_,_,_,_,_,_,y7,y8,y9,y10⟩:=eW Y1.out.blk;have z0:=X1.out.c0;have z1:=X1.out.c1;have z2:=X1.out.c2;have htk:=O1.out.le.1;have hSn:=Y1.out.sure.len.1;rw[hSn] at htk hS;have b29:Below w1.heap.size w1 w1.drew:=Below.drew (Below.refl _ _);have c2:=t_run V (O1.out.below b29) N hN0 hcb;obtain⟨D9,hd9⟩:=(O1.out.below b29).disk;have d1:decide (N<0)=false:=aj aS;have d2:decide (N ≥ 0)=true:=am hN0;have w0:IntKind.i64.wrap ((n:Int) - (tick:Int))=(n:Int) - (tick:Int):=by rw[IntKind.wrap_i64];omega
 go_upto_region 13 with fail;go_region_held3 (fun w'=>w'.cell? ⟨gy,7,none⟩=some (.pointer (some ⟨g,0,none⟩))/\w'.cell? ⟨gx,1,none⟩=some (I N)) (first | go_keep | (refine⟨?_,?_⟩ <;> assumption)) (first | ((go_at_call 33;(with_reducible refine (c2).mono ?_);rintro e w3 ⟨s3,v,z,rfl,o3⟩);have Y3:=aT ((Y1.out.below b29 O1.out.hs).step hd9 s3);have B3:=aT (B1.out.trans ((Bel2.of b29 O1.out.hs).trans (Bel2.step hd9 s3)));have O3:=aT o3;have X3:=hd9.blk (X1.out.below b29 X1.out.lt) s3.tch aV;clear o3 s3 y0 y7 y8 y9 y10 z0 z1 z2;obtain⟨y0,_,_,_,_,_,_,y7,y8,y9,y10⟩:=eW Y3.out.blk;have z1:=X3.c1) | fail);clear b29 hd9 c2;rcases O3.out with ⟨rfl,hv,o4⟩ | ⟨rfl,v0,v1,_,o4⟩
 · rw[hSn] at hv;have O4:=aT o4;clear o4 O3;have hV:Hid (0<=v/\v<=100):=⟨aS,aS⟩;have wv:IntKind.i64.wrap ((tick:Int)+v)=(tick:Int)+v:=by have:=hV.out;rw[IntKind.wrap_i64];omega
   have hHV:=aT hv;have f10:=Y3.out.blk.frozen 10
   by_cases hmn:N<=(n:Int) - (tick:Int)
   · have hvN:v=N:=aS;subst hvN;clear hv;go_upto_region 14 with fail;go_big_quiet (fail);go_wp2_with fail;have b39:Below w3.heap.size w3 (w3.drewN nq):=below_drewN (Below.refl _ _) _;have O5:=O4.out.below b39;have Y5:=Y3.out.below b39 O4.out.hs;obtain⟨D9,hd9⟩:=O5.disk;have hcast:=hV.out.1;go_ret;refine⟨rfl,.inl ⟨g,A,n,c,_,rep,_,S,?_,O5.playSet Y5.blk Y5.gy0 10 _⟩,(B3.out.trans (Bel2.of b39 O4.out.hs)).setPlay Y5.blk Y5.gy0 10 _⟩
     push_cast
     rw[Int.toNat_of_nonneg hcast];exact Y5.setRan hd9 O5.hs _
   · have hvN:v=(n:Int) - (tick:Int):=aS;subst hvN;clear hv;go_upto_region 14 with fail;go_big_quiet (fail);go_wp2_with fail;have b39:Below w3.heap.size w3 (w3.drewN nq):=below_drewN (Below.refl _ _) _;have O5:=O4.out.below b39;have Y5:=Y3.out.below b39 O4.out.hs;obtain⟨D9,hd9⟩:=O5.disk;have hcast:=hV.out.1;go_ret;refine⟨rfl,.inl ⟨g,A,n,c,_,rep,_,S,?_,O5.playSet Y5.blk Y5.gy0 10 _⟩,(B3.out.trans (Bel2.of b39 O4.out.hs)).setPlay Y5.blk Y5.gy0 10 _⟩
     push_cast
     rw[Int.toNat_of_nonneg hcast];exact Y5.setRan hd9 O5.hs _
 · rw[hSn] at v1;have O4:=aT o4;clear o4 O3;have hV:Hid (0<=v/\(tick:Int)+v<=100):=⟨v0,aS⟩;have wv:IntKind.i64.wrap ((tick:Int)+v)=(tick:Int)+v:=by have:=hV.out;rw[IntKind.wrap_i64];omega
   have f10:=Y3.out.blk.frozen 10;clear v0 v1;go_upto_region 14 with fail;go_big_quiet (fail);go_wp2_with fail;have b39:Below w3.heap.size w3 (w3.drewN nq):=below_drewN (Below.refl _ _) _;have O5:=O4.out.below b39;have Y5:=Y3.out.below b39 O4.out.hs;obtain⟨D8,_,_,hd8,_⟩:=O5.ex;go_ret;refine⟨rfl,.inr ⟨g,A,n,c,none,0,0,(tick:Int)+v,S,[],Y5.setRan hd8 O5.hs _,?_,by have:=hV.out;omega,hV.out.2⟩,(B3.out.trans (Bel2.of b39 O4.out.hs)).setPlay Y5.blk Y5.gy0 10 _⟩;rw[List.append_nil];have:=O5.playSet Y5.blk Y5.gy0 10 (I ((tick:Int)+v))
   rwa [hSn] at this
end
section
variable {w w':World} {base gy g m cc many n c tick:Nat} {q:bC} {p:PV} {pace rep kd N:Int} {S:List (List Int)} {x:PA} {A C Bx:Option Addr} {calm:Bool} {nq e9 nb nd:Nat} {l:List Int}
theorem step_runneg (hO:StOn w base q g p m cc pace many calm S tick rep)(Y:dH w base gy q x p pace (some ⟨g,0,none⟩) A n c none 0 0 (tick:Nat) S [])(hS:S.length<=100)(hN0:N<0) :
 Ca 38 #[.pointer (some ⟨gy,0,none⟩),.agg #[I 2,I N,.slice C nq e9,.slice Bx nb nd]] w fun e' w'=>e'=.returned (.bool true)/\StepR w' base gy q x p m cc pace many/\Bel2 base w w':=by
 have hs:=hO.hs;have HY:=aT Y;have HO:=aT hO;have F0:=fun W hW=>lA (kd:=2) (N:=N) (C:=C) (nq:=nq) (e9:=e9) (Bx:=Bx) (nb:=nb) (nd:=nd) (w:=w) (W:=W) hW
 clear hO Y;go_enter Tryz.func38,Tryz.ntmps38;go_upto_region 1 with fail;refine eG (fun W=>Below w.heap.size w W/\Blk W w.heap.size 75 [I 2,I N,.slice C nq e9,.slice Bx nb nd]) (F0 _ rfl) ?_;clear F0;rintro w1 ⟨hb1,hx1⟩;have Y1:=aT (HY.out.below hb1 hs);have O1:=aT (HO.out.below hb1);have B1:=aT (Bel2.of hb1 hs);have X1:=aT hx1;have hgx:base<=w.heap.size:=hs;have HBL:Hid (∀ (C:Option Addr) (nq:Nat) (l:List Int),cu w base C nq l->cu w1 base C nq l):=fun _ _ _ h=>h.below hb1
 clear HY HO hb1 hx1;generalize w.heap.size=gx at *;obtain⟨y0,_,_,_,_,_,_,y7,y8,y9,y10⟩:=eW Y1.out.blk;have z0:=X1.out.c0;have z1:=X1.out.c1;have z2:=X1.out.c2;have htk:=O1.out.le.1;have hSn:=Y1.out.sure.len.1;rw[hSn] at htk hS;have b29:Below w1.heap.size w1 w1.drew:=Below.drew (Below.refl _ _);have c2:Ca 33 #[.pointer (some ⟨g,0,none⟩),I N] w1.drew fun e' w'=>e'=.returned (.tuple #[I 0,I 2])/\w1.drew=w':=by
  obtain⟨D8,E8,e8,hd8,hi8,ok8,on8,_⟩:=(O1.out.below b29).ex;exact run_neg hi8 on8.facts.1 N hN0
 have d2:decide (N ≥ 0)=false:=aj aS;have d3:decide (N<0)=true:=am hN0;go_upto_region 13 with fail;go_region_held3 (fun w'=>w'.cell? ⟨gy,7,none⟩=some (.pointer (some ⟨g,0,none⟩))/\w'.cell? ⟨gx,1,none⟩=some (I N)) (first | go_keep | (refine⟨?_,?_⟩ <;> assumption)) (first | ((go_at_call 33;go_call (c2) as e w3 ⟨rfl,h3⟩);have Y3:=aT (h3 ▸ (Y1.out.below b29 O1.out.hs));have B3:=aT (h3 ▸ (B1.out.trans (Bel2.of b29 O1.out.hs)));have O3:=aT (h3 ▸ (O1.out.below b29));have X3:=aT (h3 ▸ (X1.out.below b29 X1.out.lt));clear h3 c2 y0 y7 y8 y9 y10 z0 z1 z2;obtain⟨y0,_,_,_,_,_,_,y7,y8,y9,y10⟩:=eW Y3.out.blk;have z1:=X3.out.c1) | fail);clear b29;have f10:=Y3.out.blk.frozen 10;have hV:Hid ((0:Int)<=(tick:Int)+0/\(tick:Int)+0<=100):=⟨aS,aS⟩;have wv:IntKind.i64.wrap ((tick:Int)+0)=(tick:Int)+0:=by have:=hV.out;rw[IntKind.wrap_i64];omega
 go_upto_region 14 with fail;go_big_quiet (fail);go_wp2_with fail;have b39:Below w3.heap.size w3 (w3.drewN nq):=below_drewN (Below.refl _ _) _;have O5:=O3.out.below b39;have Y5:=Y3.out.below b39 O3.out.hs;obtain⟨D9,hd9⟩:=O5.disk;go_ret;refine⟨rfl,.inl ⟨g,A,n,c,tick,rep,_,S,?_,(O5.more aS).playSet Y5.blk Y5.gy0 10 _⟩,(B3.out.trans (Bel2.of b39 O3.out.hs)).setPlay Y5.blk Y5.gy0 10 _⟩;exact Y5.setRan hd9 O5.hs _
theorem dH.setSure {A':Option Addr}{n' c':Nat}{S':List (List Int)}(h:dH w base gy q x p pace gp A n c B k e ran S may)(hd:bj w base q D)(hs:base<=w.heap.size)(hR:ea w base base A' n' c' S'):dH (w.setCell ⟨gy,8,none⟩ (.slice A' n' c')) base gy q x p pace gp A' n' c' B k e ran S' may :=
 ⟨h.blk.set_ 8 (.slice A' n' c'),hR.playSet hd h.blk h.gy0 hs 8 _,h.may.playSet hd h.blk h.gy0 hs 8 _,fun W hb=>h.pr W (((Below.refl base w).setCell (p:=⟨gy,8,none⟩) h.gy0 (.slice A' n' c')).trans hb),h.gy0⟩
theorem dH.setMay {B':Option Addr}{k' e':Nat}{may':List (List Int)}(h:dH w base gy q x p pace gp A n c B k e ran S may)(hd:bj w base q D)(hs:base<=w.heap.size)(hR:ea w base base B' k' e' may'):dH (w.setCell ⟨gy,9,none⟩ (.slice B' k' e')) base gy q x p pace gp A n c B' k' e' ran S may' :=
 ⟨h.blk.set_ 9 (.slice B' k' e'),h.sure.playSet hd h.blk h.gy0 hs 9 _,hR.playSet hd h.blk h.gy0 hs 9 _,fun W hb=>h.pr W (((Below.refl base w).setCell (p:=⟨gy,9,none⟩) h.gy0 (.slice B' k' e')).trans hb),h.gy0⟩
theorem rows_one {L:List Int}(hL:cu w base C nq L)(hs:base<=w.heap.size):ea (w.alloc (.cells #[.slice C nq e9] 22)) base base (some ⟨w.heap.size,0,none⟩) 1 1 [L] :=
 ⟨rfl,Nat.le_refl _,by unfold maxLen;omega,[⟨C,nq,e9⟩],fun k h Y q1 q2=>by
  have hk:k=0:=by
   have:=(List.getElem?_eq_some_iff.1 q1).1;rw[List.length_singleton] at this;omega
  subst hk;simp only[List.getElem?_cons_zero,Option.some.injEq] at q1 q2;subst q1 q2;exact hL.below bc,.inl ((Ow.new (enc:=slV) w 22 #[.slice C nq e9] [⟨C,nq,e9⟩] rfl (by unfold maxLen;simp)).rebase hs)⟩
theorem step_sub (V:Env p m pace many)(hO:StOn w base q g p m cc pace many calm S tick rep)(Y:dH w base gy q x p pace (some ⟨g,0,none⟩) A n c none 0 0 (tick:Nat) S [])(hm10:m=10)(hC:cu w base C nq l)(hi:eV l)(hx1:x.n1<=maxLen)(hT:(tick:Int)<=100) :
 Ca 38 #[.pointer (some ⟨gy,0,none⟩),.agg #[I 1,I N,.slice C nq e9,.slice Bx nb nd]] w fun e' w'=>e'=.returned (.bool true)/\StepR w' base gy q x p m cc pace many/\Bel2 base w w':=by
 have hs:=hO.hs;have HC:=aT hC;clear hC;have hs:=hO.hs;have HY:=aT Y;have HO:=aT hO;have F0:=fun W hW=>lA (kd:=1) (N:=N) (C:=C) (nq:=nq) (e9:=e9) (Bx:=Bx) (nb:=nb) (nd:=nd) (w:=w) (W:=W) hW
 clear hO Y;go_enter Tryz.func38,Tryz.ntmps38;go_upto_region 1 with fail;refine eG (fun W=>Below w.heap.size w W/\Blk W w.heap.size 75 [I 1,I N,.slice C nq e9,.slice Bx nb nd]) (F0 _ rfl) ?_;clear F0;rintro w1 ⟨hb1,hx1⟩;have Y1:=aT (HY.out.below hb1 hs);have O1:=aT (HO.out.below hb1);have B1:=aT (Bel2.of hb1 hs);have X1:=aT hx1;have hgx:base<=w.heap.size:=hs;have HBL:Hid (∀ (C:Option Addr) (nq:Nat) (l:List Int),cu w base C nq l->cu w1 base C nq l):=fun _ _ _ h=>h.below hb1
 clear HY HO hb1 hx1;generalize w.heap.size=gx at *;obtain⟨y0,_,_,_,_,_,_,y7,y8,y9,y10⟩:=eW Y1.out.blk;have z0:=X1.out.c0;have z1:=X1.out.c1;have z2:=X1.out.c2;have HC1:=aT (HBL.out _ _ _ HC.out);clear HBL;have hSn:=Y1.out.sure.len.1;have hSm:=O1.out.le.2;have b29:Below w1.heap.size w1 w1.drew:=Below.drew (Below.refl _ _);have c2:=t_submit V (O1.out.below b29) C nq e9 l (HC1.out.below b29).1 HC1.out.2.1 hi;obtain⟨D9,hd9⟩:=(O1.out.below b29).disk;have y3:=Y1.out.blk.c1;go_upto_region 3 with fail;go_region_held3 (fun w'=>w'.cell? ⟨gy,7,none⟩=some (.pointer (some ⟨g,0,none⟩))/\w'.cell? ⟨gx,2,none⟩=some (.slice C nq e9)) (first | go_keep | (refine⟨?_,?_⟩ <;> assumption)) (first | ((go_at_call 31;go_call (c2) as e w3 ⟨s3,v,z,rfl,o3⟩);have Y3:=aT ((Y1.out.below b29 O1.out.hs).step hd9 s3);have B3:=aT (B1.out.trans ((Bel2.of b29 O1.out.hs).trans (Bel2.step hd9 s3)));have O3:=aT o3;have X3:=aT (hd9.blk (X1.out.below b29 X1.out.lt) s3.tch aV);have C3:=aT ((HC1.out.below b29).step hd9 s3 aV);clear o3 s3 y0 y3 y7 y8 y9 y10 z0 z1 z2;obtain⟨y0,y1,_,_,_,_,_,y7,y8,y9,y10⟩:=eW Y3.out.blk;have z2:=X3.out.c2) | fail);clear b29 hd9 c2;rcases O3.out with ⟨rfl,rfl,hf,o4⟩ | ⟨rfl,rfl,hf,hl,o4⟩ | ⟨rfl,hv,hf,hl,o4⟩ | ⟨rfl,rfl,hf,hl,hcm,o4⟩
 · have O4:=aT o4;clear o4 O3;have cF:=fun k=>pG x.A1 C x.n1 nq x.c1 e9 p.ins l (w3.drewN k) (Y3.out.pr _ ((below_drewN (Below.refl _ _) k).mono O4.out.hs)).rd.r1 (C3.out.below (below_drewN (Below.refl _ _) k)).1 hx1 HC1.out.2.1
   rw[hf] at cF;go_upto_region 5 with fail;go_big_quiet ((go_at_call 30;exact Calls.quiet_of_same ((cF _).mono fun e w' ⟨h1,h2⟩=>⟨h1,h2.symm⟩)));go_wp2_with fail;go_ret;have b39:Below w3.heap.size w3 (w3.drewN nq):=below_drewN (Below.refl _ _) _;exact⟨rfl,.inl ⟨g,A,n,c,tick,rep,_,S,Y3.out.below b39 O4.out.hs,(O4.out.below b39).more aS⟩,B3.out.trans (Bel2.of b39 O4.out.hs)⟩
 · have O4:=aT o4;clear o4 O3;rw[hSn,hm10] at hl;subst hl;go_upto_region 5 with fail;go_big_quiet (fail);go_wp2_with fail;go_ret;have b39:Below w3.heap.size w3 (w3.drewN nq):=below_drewN (Below.refl _ _) _;exact⟨rfl,.inl ⟨g,A,_,c,tick,rep,_,S,Y3.out.below b39 O4.out.hs,(O4.out.below b39).more aS⟩,B3.out.trans (Bel2.of b39 O4.out.hs)⟩
 · rw[hSn] at hv;subst hv;have O4:=aT o4;clear o4 O3;have hcut:=Y3.out.sure.cut (Nat.le_refl n);rw[<- hSn,List.take_length,hSn] at hcut;have hn9:n<=10:=aS;have hcap:=Y3.out.sure.len.2;have HCUT:=aT hcut;clear hcut;go_upto_region 9 with fail;have b5:Below w3.heap.size w3 (w3.alloc (.cells #[.slice C nq e9] 22)).drew:=bc;have Y5:=aT (Y3.out.below b5 O4.out.hs);have X5:=aT (X3.out.below b5 X3.out.lt);have hr5:Rd slV (w3.alloc (.cells #[.slice C nq e9] 22)).drew (some ⟨w3.heap.size,0,none⟩) 1 [⟨C,nq,e9⟩]:=Rd.drew' (nC w3 ⟨C,nq,e9⟩);have s2:=X3.out.drew.c2;have s1:=Y3.out.blk.drew.c8;refine wp_region_held_drew (S:=fun w'=>w'.cell? ⟨gx,2,none⟩=some (.slice C nq e9)) bP s2 (fun hHeld=>?_);refine aU 0 ?_;refine aU 1 ?_;refine aU 2 ?_;refine aU 3 ?_;refine aU 5 ?_;refine aU 6 ?_;refine aU 8 ?_;refine aU 9 ?_ (hy:=Or.inl ⟨by rfl,by (exact kP)⟩);refine wpAnyH_ready (rs:=[4,10]) bR ba ?_;refine AllReadyH.cons rfl (fun K hK=>?_) (AllReadyH.cons rfl (fun K hK=>?_) AllReadyH.nil)
   · go_simp;refine hK.out _ _ (s2) (fun hHeld=>?_);clear hK K;refine bI ?_;refine aU 7 ?_ (hy:=Or.inl ⟨by rfl,by (exact kP)⟩);refine bQ 10 (fun K hK=>?_);go_simp;refine hK.out _ _ (X5.out.cell 2) (fun hHeld=>?_);clear hK K;refine bI ?_;refine bQ 11 (fun K hK=>?_);rw[if_pos (by rfl)];refine wp_row rfl rfl (HCUT.out.below b5) rfl hr5 (C3.out.below b5) aS (ag O4.out.hs b5.size) ?_;intro A6 c6 w6 hR6 hb6;have b6:=b5.trans (hb6.mono b5.size);have Y6:=aT (Y3.out.below b6 O4.out.hs);have O6:=aT (O4.out.below b6);have R6:=aT hR6;have f8:=Y6.out.blk.frozen 8;have q8:=Y6.out.blk.cell 8;have X6:=aT (X3.out.below b6 X3.out.lt);refine hK.out _ _ (X6.out.cell 2) (fun hHeld=>?_);clear hK K;refine bI ?_;refine aU 12 ?_;refine aU 13 ?_;refine bQ 14 (fun K hK=>?_);go_simp;obtain⟨D8,hd8⟩:=O6.out.disk;have Y7:=aT (Y6.out.setSure hd8 O6.out.hs R6.out);have O7:=aT (O6.out.playSet Y6.out.blk Y6.out.gy0 8 (.slice A6 (n+1) c6));have B7:=aT ((B3.out.trans (Bel2.of b6 O4.out.hs)).setPlay Y6.out.blk Y6.out.gy0 8 (.slice A6 (n+1) c6));have X7:=aT (X6.out.far (p:=⟨gy,8,none⟩) (X6.out.ne_ Y6.out.blk aV) (.slice A6 (n+1) c6));refine hK.out _ _ (X7.out.cell 2) (fun hHeld=>?_);clear hK K;refine bI ?_;refine wpAnyH_done bR ?_ _;go_wp2_with fail;go_ret;exact⟨rfl,.inl ⟨g,A6,n+1,c6,tick,rep,_,_,Y7.out,O7.out.more aS⟩,B7.out⟩
   · go_simp;refine hK.out _ _ (X5.out.cell 2) (fun hHeld=>?_);clear hK K;refine bI ?_;have s3:=Y5.out.blk.cell 8;refine bQ 4 (fun K hK=>?_);go_simp;refine hK.out _ _ (X5.out.cell 2) (fun hHeld=>?_);clear hK K;refine bI ?_;refine aU 7 ?_ (hy:=Or.inl ⟨by rfl,by (exact kP)⟩);refine bQ 11 (fun K hK=>?_);rw[if_pos (by rfl)];refine wp_row rfl rfl (HCUT.out.below b5) rfl hr5 (C3.out.below b5) aS (ag O4.out.hs b5.size) ?_;intro A6 c6 w6 hR6 hb6;have b6:=b5.trans (hb6.mono b5.size);have Y6:=aT (Y3.out.below b6 O4.out.hs);have O6:=aT (O4.out.below b6);have R6:=aT hR6;have f8:=Y6.out.blk.frozen 8;have q8:=Y6.out.blk.cell 8;have X6:=aT (X3.out.below b6 X3.out.lt);refine hK.out _ _ (X6.out.cell 2) (fun hHeld=>?_);clear hK K;refine bI ?_;refine aU 12 ?_;refine aU 13 ?_;refine bQ 14 (fun K hK=>?_);go_simp;obtain⟨D8,hd8⟩:=O6.out.disk;have Y7:=aT (Y6.out.setSure hd8 O6.out.hs R6.out);have O7:=aT (O6.out.playSet Y6.out.blk Y6.out.gy0 8 (.slice A6 (n+1) c6));have B7:=aT ((B3.out.trans (Bel2.of b6 O4.out.hs)).setPlay Y6.out.blk Y6.out.gy0 8 (.slice A6 (n+1) c6));have X7:=aT (X6.out.far (p:=⟨gy,8,none⟩) (X6.out.ne_ Y6.out.blk aV) (.slice A6 (n+1) c6));refine hK.out _ _ (X7.out.cell 2) (fun hHeld=>?_);clear hK K;refine bI ?_;refine wpAnyH_done bR ?_ _;go_wp2_with fail;go_ret;exact⟨rfl,.inl ⟨g,A6,n+1,c6,tick,rep,_,_,Y7.out,O7.out.more aS⟩,B7.out⟩
 · have O4:=aT o4;clear o4 O3;have b5:Below w3.heap.size w3 (w3.alloc (.cells #[.slice C nq e9] 22)):=bc;have Y5:=aT (Y3.out.below b5 O4.out.hs);have O5:=aT (O4.out.below b5);have B5:=aT (B3.out.trans (Bel2.of b5 O4.out.hs));have R5:=aT (rows_one (e9:=e9) C3.out O4.out.hs);have f9:=Y5.out.blk.frozen 9;have q9:=Y5.out.blk.cell 9;have hgl:=Y3.out.blk.lt;go_upto_region 11 with fail;go_wp2_with fail;obtain⟨D8,_,_,hd8,_⟩:=O5.out.ex;have Y7:=aT (Y5.out.setMay hd8 O5.out.hs R5.out);have O7:=aT (O5.out.playSet Y5.out.blk Y5.out.gy0 9 (.slice (some ⟨w3.heap.size,0,none⟩) 1 1));have B7:=aT (B5.out.setPlay Y5.out.blk Y5.out.gy0 9 (.slice (some ⟨w3.heap.size,0,none⟩) 1 1));rw[World.setCell_alloc_past _ _ _ _ hgl] at Y7 O7 B7;go_ret;refine⟨rfl,.inr ⟨g,A,n,c,some ⟨w3.heap.size,0,none⟩,1,1,(tick:Int),S,[l],Y7.out,?_,aS,hT⟩,B7.out⟩;have h9:gu _ base q g p m (cc+2000) pace many S.length (S ++ [l]) (tick:Int):=O7.out.more aS;rw[hSn] at h9;exact h9
theorem plstep_any (V:Env p m pace many)(hO:StOn w base q g p m cc pace many calm S tick rep)(Y:dH w base gy q x p pace (some ⟨g,0,none⟩) A n c none 0 0 (tick:Nat) S [])(hm10:m=10)(hC:cu w base C nq l)(hi:eV l)(hx1:x.n1<=maxLen)(hN:N<=9223372036854775807)(hcb:cc<7000000000000000000) :
 Ca 38 #[.pointer (some ⟨gy,0,none⟩),.agg #[I kd,I N,.slice C nq e9,.slice Bx nb nd]] w fun e' w'=>e'=.returned (.bool true)/\StepR w' base gy q x p m cc pace many/\Bel2 base w w':=by
 have h1:=hO.le.1;have h2:=hO.le.2.1
 by_cases k1:kd=1
 · subst k1;exact step_sub V hO Y hm10 hC hi hx1 aS
 by_cases k2:kd=2
 · subst k2
   by_cases k0:0<=N
   · exact step_run V hO Y hcb aS k0
   · exact step_runneg hO Y aS aS
 by_cases k3:kd=3
 · subst k3;exact step_save V hO Y hcb aS
 by_cases k4:kd=4
 · subst k4;exact step_cut hO Y hN
 exact step_none hO Y (by rw[ae];exact k1) (by rw[ae];exact k2) (by rw[ae];exact k3) (by rw[ae];exact k4)
end
open Go.RowKit Go.WideShapes Go.ChangeShapes Go.Deep Go.Joins
structure DoR where
 k:Int
 n:Int
 B1:Option Addr
 n1:Nat
 c1:Nat
 B2:Option Addr
 n2:Nat
 c2:Nat
def doRc (x:DoR):List Value:=[I x.k,I x.n,.slice x.B1 x.n1 x.c1,.slice x.B2 x.n2 x.c2]
theorem mm (x:DoR):(doRc x).length=4:=rfl
theorem doRc_one (x:DoR):∀ u ∈ doRc x,u.oneCell'=true:=by
 intro u hu;simp only[doRc,List.mem_cons,List.not_mem_nil,or_false] at hu;rcases hu with rfl | rfl | rfl | rfl <;> rfl
theorem elemDo:dI Tryz.prog 69 75 (.agg #[I 0,I 0,.slice none 0 0,.slice none 0 0]) 4 64:=dI.mk' Tryz.underlying69 bP rfl aV
def DoOk (w0:World)(base:Nat)(y:DoR):Prop :=
 y.n<=9223372036854775807/\y.n2<=maxLen/\(0<y.n2->∀ g,y.B2.map (·.block)=some g->g<base)/\∃ l bs,eV l/\∀ W,Below w0.heap.size w0 W->cu W base y.B1 y.n1 l/\RB W y.B2 y.n2 bs
theorem DoOk.last (w0:World)(base:Nat):DoOk w0 base ⟨5,-1,none,0,0,none,0,0⟩ :=
 ⟨by decide,by unfold maxLen;decide,fun h=>absurd h aV,[],[],fun i hi=>absurd hi ba,fun W _=>⟨cu.nil W base,⟨rfl,Row.nil _ _ _⟩⟩⟩
theorem DosW.rows {w:World}{base:Nat}{A:Option Addr}{n:Nat}{l:List DoW}(h:DosW w A n l)(hb:w.heap.size<=base):∃ rs:List DoR,RdS 4 doRc w A n rs/\∀ y ∈ rs,DoOk w base y:=by
 have hx:∀ i,i<n->∃ y:DoR,DoOk w base y/\∃ b o,A=some ⟨b,o,none⟩/\b<w.heap.size/\∀ j,j<4->w.cell? ⟨b,o+i * 4+j,none⟩=(doRc y)[j]?:=fun i hi=>by
  obtain⟨x,hx⟩:∃ x,l[i]?=some x:=⟨_,ap (by rw[h.1];exact hi)⟩;obtain⟨b,o,C,q,e,B,m,c,hA,hlt,c0,c1,c2,c3,hr,h1,h2,hB,h3,h4,_,hn,ho⟩:=h.2 i x hx;refine⟨⟨x.kind,x.n,C,q,e,B,m,c⟩,⟨hn.2,by show m<=maxLen;omega,fun h0 g hg=>?_,x.l,x.b,ho,fun W hW=>⟨cu.old hr (show q<=maxLen by omega) hW hb,hB.below hW aW⟩⟩,b,o,hA,hlt,fun j hj=>?_⟩
  · obtain⟨b',o',e',hb',_⟩:=hB.2 h0;have hg':B.map (·.block)=some g:=hg;rw[e'] at hg';simp only[Option.map_some,Option.some.injEq] at hg';omega
  · match j with
    | 0=>exact c0
    | 1=>exact c1
    | 2=>exact c2
    | 3=>exact c3
 obtain⟨rs,hl,hp⟩:=list_of hx;refine⟨rs,⟨hl,by rw[lE mm,hl],fun h0=>?_⟩,fun y hy=>?_⟩
 · obtain⟨y,_,b,o,hA,hlt,_⟩:=hx 0 aS;refine⟨b,o,hA,hlt,fun i hi=>?_⟩;have hk:i / 4<n:=aS;have hks:i / 4<rs.length:=aS;obtain⟨_,b',o',hA',_,hc⟩:=hp (i / 4) _ (ap hks);rw[hA] at hA';simp only[Option.some.injEq,Addr.mk.injEq,and_true] at hA';obtain⟨rfl,rfl⟩:=hA';have hc':=hc (i % 4) aS;rw[Nat.add_assoc,show i / 4 * 4+i % 4=i by omega] at hc';rw[hc'];have hf:=flat_at mm (j:=i % 4) aS rs (i / 4) _ (ap hks);rw[show i / 4 * 4+i % 4=i by omega] at hf;rw[<- hf]
   show _=some ((rs.flatMap doRc).getD i undef)
   rw[ah];have:i<(rs.flatMap doRc).length:=by rw[lE mm];omega
   simp[ap this]
 · obtain⟨t,ht,e⟩:=List.getElem_of_mem hy;rw[<- e];exact (hp t _ (ap ht)).1
def jH (x:PA):Prop:=x.n1<=20/\x.n2<=20/\x.n3<=80/\x.n4<=60
theorem few28_yes (x:PA)(r:Int)(w:World)(hf:jH x):Ca 15 #[.agg #[.slice x.A1 x.n1 x.c1,.slice x.A2 x.n2 x.c2,I r,.slice x.A3 x.n3 x.c3,.slice x.A4 x.n4 x.c4]] w fun e w'=>e=.returned (.bool true)/\Below w.heap.size w w':=by
 obtain⟨h1,h2,h3,h4⟩:=hf;go_enter Tryz.func15,Tryz.ntmps15;go_wp2;go_ret;exact⟨cO lF,bc⟩
theorem few28_no (x:PA)(p:PV)(w:World)(hr:ca w x p)(hf:¬ jH x):Ca 15 #[.agg #[.slice x.A1 x.n1 x.c1,.slice x.A2 x.n2 x.c2,I p.regs,.slice x.A3 x.n3 x.c3,.slice x.A4 x.n4 x.c4]] w fun e w'=>e=.returned (.bool false)/\Below w.heap.size w w':=by
 obtain⟨_,_,_,_,k1,k2,k3,k4⟩:=hr;unfold maxLen at k1 k2 k3 k4;unfold jH at hf
 by_cases h1:x.n1<=20
 · by_cases h2:x.n2<=20
   · by_cases h3:x.n3<=80
     · have h4:¬ x.n4<=60:=fun h=>hf ⟨h1,h2,h3,h⟩
       clear hf;go_enter Tryz.func15,Tryz.ntmps15;go_wp2;go_ret;exact⟨cO lF,bc⟩
     · clear hf;go_enter Tryz.func15,Tryz.ntmps15;go_wp2;go_ret;exact⟨cO lF,bc⟩
   · clear hf;go_enter Tryz.func15,Tryz.ntmps15;go_wp2;go_ret;exact⟨cO lF,bc⟩
 · clear hf;go_enter Tryz.func15,Tryz.ntmps15;go_wp2;go_ret;exact⟨cO lF,bc⟩
