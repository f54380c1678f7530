/- Parts: KeepP, KeepM, EngU, LsI, RowsN, EngV. -/
import Derived.Test.YtmeebofhlilcmaaGreatPr47
import Derived.ArgAppend
set_option linter.unusedVariables false
set_option linter.unusedSimpArgs false
set_option maxRecDepth 100000
set_option maxHeartbeats 0
namespace Go.Proofs.YtmeebofhlilcmaaGreat
variable {D:aX} {many n c lim:Nat} {α:Type} {e:TypeId}
open Go.RowKit
def dS:PV:=⟨[1],[1],2,[(1,0)],[⟨28,0,0,0,0⟩,⟨21,1,0,0,0⟩,⟨32,0,0,0,0⟩,⟨29,1,0,0,0⟩]⟩
theorem delay_right:dZ dS=true:=by decide +kernel
theorem delay_wf:fe dS:=⟨by decide +kernel,by decide +kernel⟩
def ProgNew (w:World)(P:PV)(e:Ending)(w':World):Prop:=∃ x:PA,e=.returned (.agg #[.slice x.A1 x.n1 x.c1,.slice x.A2 x.n2 x.c2,I P.regs,.slice x.A3 x.n3 x.c3,.slice x.A4 x.n4 x.c4])/\(∀ base,eM w' base x P)/\Below w.heap.size w w'
theorem delay_at {W:World}{g1 g2 g3 g4:Nat}(b1:Blk W g1 3 [I 1])(b2:Blk W g2 3 [I 1])(b3:Blk W g3 187 [I 1,I 0])
 (b4:Blk W g4 144 [I 28,I 0,I 0,I 0,I 0,I 21,I 1,I 0,I 0,I 0,I 32,I 0,I 0,I 0,I 0,I 29,I 1,I 0,I 0,I 0]) (base:Nat) :
 eM W base ⟨some ⟨g1,0,none⟩,1,1,some ⟨g2,0,none⟩,1,1,some ⟨g3,0,none⟩,1,1,some ⟨g4,0,none⟩,4,4⟩ dS:=by
 have mx:∀ n:Nat,n<=4->n<=n/\n<=maxLen:=fun n hn=>⟨Nat.le_refl _,by unfold maxLen;omega⟩
 refine⟨⟨(Rd.of_block (enc:=iv) (l:=[1]) b1 rfl).ri,(Rd.of_block (enc:=iv) (l:=[1]) b2 rfl).ri,RdS.of_block b3 iP (l:=[(1,0)]) rfl,RdS.of_block b4 kf (l:=[⟨28,0,0,0,0⟩,⟨21,1,0,0,0⟩,⟨32,0,0,0,0⟩,⟨29,1,0,0,0⟩]) rfl,mx 1 aS,mx 1 aS,mx 1 aS,mx 4 aS⟩,fun _ g hg=>?_,fun _ g hg=>?_,fun _ g hg=>?_,fun _ g hg=>?_⟩
 · simp only[Option.map_some,Option.some.injEq] at hg;subst hg;exact .inr ⟨_,b1⟩
 · simp only[Option.map_some,Option.some.injEq] at hg;subst hg;exact .inr ⟨_,b2⟩
 · simp only[Option.map_some,Option.some.injEq] at hg;subst hg;exact .inr ⟨_,b3⟩
 · simp only[Option.map_some,Option.some.injEq] at hg;subst hg;exact .inr ⟨_,b4⟩
theorem delay_any (w:World):Ca 26 #[] w (ProgNew w dS):=by
 go_enter Tryz.func26,Tryz.ntmps26;go_wp2;refine bodyPost_ret (v:=.agg #[.slice (some ⟨w.heap.size+1,0,none⟩) 1 1,.slice (some ⟨w.heap.size+1+1,0,none⟩) 1 1,I 2,.slice (some ⟨w.heap.size+1+1+1,0,none⟩) 1 1,.slice (some ⟨w.heap.size+1+1+1+1,0,none⟩) 4 4]) (by simp[results,Tryz.results26,go_sem]) rfl ?_;refine⟨_,rfl,fun base=>delay_at (g1:=w.heap.size+1) (g2:=w.heap.size+1+1) (g3:=w.heap.size+1+1+1) (g4:=w.heap.size+1+1+1+1) ?_ ?_ ?_ ?_ base,a9⟩
 · exact (((Blk.top _ a8 rfl).alloc _).alloc _).alloc _
 · exact ((Blk.top _ a8 rfl).alloc _).alloc _
 · exact (Blk.top _ a8 rfl).alloc _
 · exact Blk.top _ a8 rfl
section
variable {w w':World} {base g m c many k tick:Nat} {q:bw} {p:PV} {pace rep ran:Int} {rows all:List (List Int)} {x:PA}
theorem mz (V:Env p m pace many)(h:StOn w base q g p m c pace many true rows tick rep)(B:Option Addr)(n d:Nat)(l:List Int)(hl:RI w B n l)(hn:n<=maxLen)(hi:eS l)(hf:cd p.ins l=true)(hlt:rows.length<m) :
 Ca 31 #[.pointer (some ⟨g,0,none⟩),.slice B n d] w fun e' w'=>e'=.returned (.tuple #[I (rows.length:Nat),I 0])/\StOn w' base q g p m c pace many true (rows ++ [l]) tick rep/\Step mutE base q w w' :=
 (t_submit V h B n d l hl hn hi).mono fun e' w' ⟨s,v,z,h1,h2⟩=>by
  rcases h2 with ⟨_,_,x,_⟩ | ⟨_,_,_,x,_⟩ | ⟨rfl,rfl,_,_,x⟩ | ⟨_,_,_,_,x,_⟩
  · rw[hf] at x;cases x
  · omega
  · exact⟨h1,x,s⟩
  · cases x
theorem c_run (V:Env p m pace many)(h:StOn w base q g p m c pace many true rows tick rep)(most:Int)(hmo:0<=most)(hcb:c<7000000000000000000)(n:Nat)(hn:min most ((rows.length:Int) - tick)=(n:Int)) :
 Ca 33 #[.pointer (some ⟨g,0,none⟩),I most] w fun e' w'=>e'=.returned (.tuple #[I (n:Nat),I 0])/\StOn w' base q g p m (c+2000) pace many true rows (tick+n) rep/\Step mutE base q w w' :=
 (t_run V h most hmo hcb).mono fun e' w' ⟨s,v,z,h1,h2⟩=>by
  rcases h2 with ⟨rfl,x1,x2⟩ | ⟨_,_,_,x,_⟩
  · have e:=x1.trans hn;subst e;exact⟨h1,by simpa using x2,s⟩
  · cases x
theorem c_open (V:Env p m pace many)(h:iy w base q p m c pace many true k all ran)(hx:eM w base x p)(hcb:c<7000000000000000000)(hk:k=all.length) :
 Ca 25 #[.pointer (some ⟨q.d,0,none⟩),.agg #[.slice x.A1 x.n1 x.c1,.slice x.A2 x.n2 x.c2,I p.regs,.slice x.A3 x.n3 x.c3,.slice x.A4 x.n4 x.c4],I pace] w fun e' w'=>
  ∃ g rep,e'=.returned (.tuple #[.pointer (some ⟨g,0,none⟩),I 0])/\StOn w' base q g p m (c+2000) pace many true all all.length rep/\Step mutE base q w w' :=
 (t_open V h hx hcb).mono fun e' w' ⟨s,g,z,h1,h2⟩=>by
  rcases h2 with ⟨rfl,nx,rep,x1,x2,x3,x4,x5⟩ | ⟨_,x,_⟩
  · have e:nx=all.length:=aS;subst e;rw[List.take_length] at x5;exact⟨g,rep,h1,x5,s⟩
  · cases x
theorem c_format (V:Env p m pace many){N:Secs}(hd:bc w base q D)(hr:Rest D N)(hm:D.many=many)(hc:D.cut=-1)(hs:base<=w.heap.size)(hx:db w x p) :
 Ca 27 #[.pointer (some ⟨q.d,0,none⟩),.agg #[.slice x.A1 x.n1 x.c1,.slice x.A2 x.n2 x.c2,I p.regs,.slice x.A3 x.n3 x.c3,.slice x.A4 x.n4 x.c4]] w fun e' w'=>e'=.returned (I 0)/\iy w' base q p m 0 pace many true 0 [] 0/\Step mutE base q w w' :=
 (t_format V hd hr hm hs hx).mono fun e' w' ⟨s,z,h1,h2⟩=>by
  rcases h2 with ⟨rfl,x⟩ | ⟨_,x,_⟩
  · rw[am hc] at x;exact⟨h1,x,s⟩
  · exact absurd hc x
end
theorem delay_env {m:Nat}{pace:Int}(h1:13<=many)(h2:many<=2059)(hm:m=(many - 11) / 2)(p1:1<=pace)(p2:pace<=1024):Env dS m pace many:=Env.of delay_right delay_wf h1 h2 hm p1 p2
theorem statf1 (a b c d e f:Int)(w:World):(Instr.field 54 (.agg #[I a,I b,I c,I d,I e,I f]) 1).run Tryz.prog w=.ok (I b) w:=by kernel_rfl
def gM:List (List Int):=[[5],[6],[7]]
theorem awake38 (w:World):Ca 24 #[] w fun e w'=>e=.returned (.bool true)/\Below w.heap.size w w':=by
 have V:Env dS 10 2 31:=delay_env aS aS rfl aS aS;have hnew:∀ w,Ca 28 #[I 31,I 31] w fun e' w'=>∃ q,e'=.returned (.tuple #[.pointer (some ⟨q.d,0,none⟩),I 0])/\bc w' w.heap.size q (newV 31 31)/\Below w.heap.size w w':=fun w=>t_new (many:=31) w aS aS
 have hrn:=rest_new (many:=31) aS aS;have hmn:(newV 31 31).many=31:=rfl;have hcn:(newV 31 31).cut=-1:=rfl;have f5:cd dS.ins [5]=true:=by decide +kernel
 have f6:cd dS.ins [6]=true:=by decide +kernel
 have f7:cd dS.ins [7]=true:=by decide +kernel
 have g2:dx dS gM 2=[6]:=by decide +kernel
 have ik:∀ z:Int,0<=z->z<=10->eS [z]:=fun z h0 h1 i hi=>by
  have:i=0:=by simpa using hi
  subst this
  show -9223372036854775808<=z/\z<=9223372036854775807
  omega
 have cD:=fun (W:World)=>delay_any W
 have cF:=fun {W:World} {base:Nat} {q:bw} {x:PA} (hd:bc W base q (newV 31 31)) (hs:base<=W.heap.size) (hx:db W x dS)=>c_format V hd hrn hmn hcn hs hx
 have cO1:=fun {W:World} {base:Nat} {q:bw} {x:PA} (h:iy W base q dS 10 0 2 31 true 0 [] 0) (hx:eM W base x dS)=>c_open V h hx aS rfl
 have cS:∀ {W:World} {base g gb:Nat} {q:bw} {rep:Int} {k:Nat},k<3->StOn W base q g dS 10 2000 2 31 true (gM.take k) 0 rep->RI W (some ⟨gb,0,none⟩) 1 [(k:Int)+5] ->
  Ca 31 #[.pointer (some ⟨g,0,none⟩),.slice (some ⟨gb,0,none⟩) 1 1] W fun e' w'=>e'=.returned (.tuple #[I (k:Nat),I 0])/\StOn w' base q g dS 10 2000 2 31 true (gM.take (k+1)) 0 rep/\Step mutE base q W w':=by
  intro W base g gb q rep k hk h hl;have hc:k=0\/k=1\/k=2:=aS;rcases hc with rfl | rfl | rfl
  · exact mz V h _ 1 1 [5] hl aU (ik 5 aS aS) f5 aU
  · exact mz V h _ 1 1 [6] hl aU (ik 6 aS aS) f6 aU
  · exact mz V h _ 1 1 [7] hl aU (ik 7 aS aS) f7 aU
 have cR:=fun {W:World} {base g:Nat} {q:bw} {rep:Int} (h:StOn W base q g dS 10 2000 2 31 true (gM.take 3) 0 rep)=>
  (show Ca 33 #[.pointer (some ⟨g,0,none⟩),I 1] W fun e' w'=>e'=.returned (.tuple #[I 1,I 0])/\StOn w' base q g dS 10 4000 2 31 true gM 1 rep/\Step mutE base q W w' from c_run V h 1 aS aS 1 aU)
 have cC:=fun {W:World} {base g:Nat} {q:bw} {rep:Int} (h:StOn W base q g dS 10 4000 2 31 true gM 1 rep)=>
  (show Ca 43 #[.pointer (some ⟨q.d,0,none⟩),.slice none 0 0] W fun e' w'=>e'=.returned (.tuple #[])/\iy w' base q dS 10 4000 2 31 true 3 gM 1/\Step mutE base q W w' from t_crash h.may none 0 0 [] ⟨rfl,Row.nil _ _ _⟩ (fun h=>absurd h aS) aS)
 have cO2:=fun {W:World} {base:Nat} {q:bw} {x:PA} (h:iy W base q dS 10 4000 2 31 true 3 gM 1) (hx:eM W base x dS)=>(show Ca 25 #[.pointer (some ⟨q.d,0,none⟩),.agg #[.slice x.A1 x.n1 x.c1,.slice x.A2 x.n2 x.c2,I dS.regs,.slice x.A3 x.n3 x.c3,.slice x.A4 x.n4 x.c4],I 2] W fun e' w'=>
  ∃ g rep,e'=.returned (.tuple #[.pointer (some ⟨g,0,none⟩),I 0])/\StOn w' base q g dS 10 6000 2 31 true gM 3 rep/\Step mutE base q W w' from c_open V h hx aS rfl)
 have cT:=fun {W:World} {base g:Nat} {q:bw} {rep:Int} (h:StOn W base q g dS 10 6000 2 31 true gM 3 rep)=>
  (show Ca 98 #[.pointer (some ⟨g,0,none⟩),I 2] W fun e' w'=>∃ B k d,e'=.returned (.tuple #[.slice B k d,I 0])/\Ow iv w' W.heap.size 3 B k d [6]/\StOn w' base q g dS 10 6000 2 31 true gM 3 rep/\Step mutE base q W w' from by
   have:=t_output V h 2 aS;rw[g2] at this;exact this)
 have cA:=fun {W:World} {base g:Nat} {q:bw} {rep:Int} (h:StOn W base q g dS 10 6000 2 31 true gM 3 rep)=>
  (show Ca 29 #[.pointer (some ⟨g,0,none⟩)] W fun e' w'=>∃ pa sv,e'=.returned (.agg #[I 3,I 3,I 3,I pa,I rep,I sv])/\Below W.heap.size W w' from
   (t_stat h).mono fun e' w' ⟨pa,sv,h1,_,_,_,_,_,h2⟩=>⟨pa,sv,h1,h2⟩)
 have hfd:=fun pa rep sv w=>statf1 3 3 3 pa rep sv w
 clear V hrn hmn hcn f5 f6 f7 g2 ik;generalize newV 31 31=D0 at *;generalize gM=L at *;generalize dS=P at *;go_enter Tryz.func24,Tryz.ntmps24;go_wp2_with (first | ((go_at_call 28;(with_reducible refine (hnew _).mono ?_);rintro e w1 ⟨q,rfl,d1,b1⟩);have D1:=aT d1;have B1:=aT b1;have S1:=b1.size;clear d1 b1) | ((go_at_call 26;(with_reducible refine (cD _).mono ?_);rintro e w2 ⟨x2,rfl,px2,bx2⟩);have D2:=aT (D1.out.below bx2);have B2:=aT (B1.out.trans (bx2.mono B1.out.size));have P2:=aT (px2 0).rd;have S2:=B2.out.size;clear px2 bx2 D1) | ((go_at_call 27;(with_reducible refine (cF D2.out S2 P2.out).mono ?_);rintro e w3 ⟨rfl,r3,s3⟩);have R3:=aT r3;have B3:=aT (B2.out.trans s3.bel);clear r3 s3 D2) | ((go_at_call 26;(with_reducible refine (cD _).mono ?_);rintro e w4 ⟨x4,rfl,px4,bx4⟩);have R4:=aT (R3.out.below bx4);have B4:=aT (B3.out.trans (bx4.mono B3.out.size));have P4:=aT (px4 w.heap.size);clear px4 bx4 R3) | ((go_at_call 25;(with_reducible refine (cO1 R4.out P4.out).mono ?_);rintro e w5 ⟨g5,rep5,rfl,o5,s5⟩);have O5:=aT o5;have B5:=aT (B4.out.trans s5.bel);clear o5 s5 R4) | fail);go_loopw [28] (fun i wr=>∃ k:Nat,k<=3/\i=I (k:Nat)/\Hid (StOn wr w.heap.size q g5 P 10 2000 2 31 true (L.take k) 0 rep5)/\Hid (Below w.heap.size w wr)) (fun i _=>3 - (intOf i).toNat)
 case atStart=>exact⟨0,aS,rfl,O5.out,B5.out⟩
 case round=>
  obtain⟨k,hk,rfl,hO,hB⟩:=hrel;have hs:=hB.out.size;clear O5 B5
  by_cases hlt:k<3
  · go_wp2_with (first | ((go_at_call 31;(with_reducible refine (cS hlt (hO.out.below a9) (Rd.of_block (enc:=iv) (l:=[(k:Int)+5]) (df _ _ a8) rfl).ri).mono ?_);rintro e w6 ⟨rfl,o6,s6⟩);have O6:=aT o6;have B6:=aT (hB.out.trans ((show Below wr.heap.size wr _ from a9).mono hs |>.trans s6.bel));clear o6 s6) | fail);go_roundw
    case rel=>first
     | exact⟨k+1,aS,by go_num,O6.out,B6.out⟩
     | ((repeat apply Exists.intro);exact⟨⟨k+1,aS,by go_num,O6.out,B6.out⟩,rfl⟩)
    case measure=>simp[intOf];omega
  · have hk3:k=3:=aS;subst hk3;have O8:=aT hO.out;have B8:=aT hB.out;clear hO hB;go_upto_region 15 with (first | ((go_at_call 33;(with_reducible refine (cR O8.out).mono ?_);rintro e w9 ⟨rfl,o9,s9⟩);have O9:=aT o9;have B9:=aT (B8.out.trans s9.bel);clear o9 s9 O8) | ((go_at_call 43;(with_reducible refine (cC O9.out).mono ?_);rintro e w10 ⟨rfl,o10,s10⟩);have R10:=aT o10;have B10:=aT (B9.out.trans s10.bel);clear o10 s10 O9) | ((go_at_call 26;(with_reducible refine (cD _).mono ?_);rintro e w11 ⟨x11,rfl,px11,bx11⟩);have R11:=aT (R10.out.below bx11);have B11:=aT (B10.out.trans (bx11.mono B10.out.size));have P11:=aT (px11 w.heap.size);clear px11 bx11 R10) | ((go_at_call 25;(with_reducible refine (cO2 R11.out P11.out).mono ?_);rintro e w12 ⟨g12,rep12,rfl,o12,s12⟩);have O12:=aT o12;have B12:=aT (B11.out.trans s12.bel);clear o12 s12 R11) | ((go_at_call 98;(with_reducible refine (cT O12.out).mono ?_);rintro e w13 ⟨A13,n13,c13,rfl,w13',o13,s13⟩);have O13:=aT o13;have B13:=aT (B12.out.trans s13.bel);have W13:=aT w13';clear o13 s13 w13' O12) | fail);have hcp:=W13.out.cap;have hI:=fun (W:World) (g:Nat) (h1:RI W A13 n13 [6]) (h2:RI W (some ⟨g,0,none⟩) 1 [6])=>(show Ca 95 #[.slice A13 n13 c13,.slice (some ⟨g,0,none⟩) 1 1] W fun e w'=>e=.returned (.bool true)/\∃ q,w'=W.drewN q from by
     have:=ints_any A13 (some ⟨g,0,none⟩) n13 1 c13 1 [6] [6] W h1 h2 aS;rw[am (rfl:([6]:List Int)=[6])] at this;exact this)
    go_wp2_with (first | ((go_at_call 29;(with_reducible refine (cA O13.out).mono ?_);rintro e w14 ⟨pa,sv,rfl,b14⟩);have B14:=aT (B13.out.trans (b14.mono B13.out.size));have W14:=aT (W13.out.below b14 aW);clear b14) | ((go_at_call 95;(with_reducible refine (hI _ _ (W14.out.below (b:=w14.heap.size) a9 aW).rd.ri (Rd.of_block (enc:=iv) (l:=[6]) (df _ _ a8) rfl).ri).mono ?_);rintro e w15 ⟨rfl,q15,rfl⟩)) | fail);go_ret;exact⟨rfl,B14.out.trans ((show Below w14.heap.size w14 _ from a9).mono B14.out.size)⟩
theorem elemRows:dF Tryz.prog 57 22 (.slice none 0 0) 1 24:=dF.mk' Tryz.underlying57 bO rfl aU
def gN (w:World)(B:Option Addr)(N:Nat)(Ls:List (List Int)):Prop:=Ls.length=N/\∃ hs:List SlV,Rd slV w B N hs/\∀ (k:Nat) (h:SlV) (L:List Int),hs[k]?=some h->Ls[k]?=some L->RI w h.a h.n L/\h.n<=maxLen
section
variable {M:List TypeId} {w w':World} {base lim N c:Nat} {B:Option Addr} {p:bw} {D:aX} {Ls:List (List Int)}
theorem gN.below {B0:Nat}(h:gN w B N Ls)(hb:Below B0 w w')(hB:w.heap.size<=B0):gN w' B N Ls:=by
 obtain⟨hl,hs,ho,hk⟩:=h;exact⟨hl,hs,ho.below hb hB,fun k x L h1 h2=>⟨(hk k x L h1 h2).1.below hb hB,(hk k x L h1 h2).2⟩⟩
theorem Step.of_app {enc:α->Value}{l:List α}(ho:Ow enc w base e B n c l)(hg:w.grownBy w' (B.map (·.block)))(hs:base<=w.heap.size):Step [e] base p w w':=by
 cases B with
 | none=>
   have hb:=(Below.refl _ _).grown hg aW (fun k hk=>by cases hk);exact Step.of_below hb hs
 | some a=>
   obtain⟨cs,hb⟩:=ho.blk (g:=a.block) rfl;have:=ho.lt a.block rfl;exact Step.one hg hb a8 this.1 hs
end
def eW (w:World)(base:Nat)(A:Option Addr)(N c:Nat)(Ls:List (List Int)):Prop :=
 Ls.length=N/\∃ hs:List SlV,Ow slV w base 22 A N c hs/\∀ (k:Nat) (h:SlV) (L:List Int),hs[k]?=some h->Ls[k]?=some L->Ow iv w base 3 h.a h.n h.c L
section
variable {M:List TypeId} {w w':World} {base N c:Nat} {A:Option Addr} {q:bw} {D:aX} {Ls:List (List Int)}
theorem eW.nil (w:World)(base:Nat):eW w base none 0 0 []:=⟨rfl,[],Ow.nil _ _ _ _,fun k h L h1=>by simp at h1⟩
theorem eW.below (H:eW w base A N c Ls)(hb:Below w.heap.size w w'):eW w' base A N c Ls:=by
 obtain⟨a,hs,ho,hk⟩:=H;exact⟨a,hs,ho.below hb aW,fun k h L q1 q2=>(hk k h L q1 q2).below hb aW⟩
theorem eW.rd (H:eW w base A N c Ls):gN w A N Ls:=by
 obtain⟨a,hs,ho,hk⟩:=H;exact⟨a,hs,ho.rd,fun k h L q1 q2=>⟨(hk k h L q1 q2).rd.ri,by have:=(hk k h L q1 q2).cap;omega⟩⟩
theorem eW.lower {b:Nat}(H:eW w base A N c Ls)(hb:b<=base):eW w b A N c Ls:=by
 obtain⟨a,hs,ho,hk⟩:=H;exact⟨a,hs,ho.rebase hb,fun k h L q1 q2=>(hk k h L q1 q2).rebase hb⟩
theorem eW.step {b0:Nat}(H:eW w b0 A N c Ls)(hd:bc w base q D)(k:Step M base q w w')(h1:22 ∉ 4 :: M)(h2:3 ∉ 4 :: M):eW w' b0 A N c Ls:=by
 obtain⟨a,hs,ho,hk⟩:=H;exact⟨a,hs,hd.ow ho k.tch h1,fun k' h L q1 q2=>hd.ow (hk k' h L q1 q2) k.tch h2⟩
theorem Ow.other {enc:α->Value}{B C:Option Addr}{b1 b2 m d:Nat}{l:List α}{L:List Int}(H:Ow iv w b1 3 C n c L)(ho:Ow enc w b2 e B m d l)(he:e≠3)(hg:w.grownBy w' (B.map (·.block))):Ow iv w' b1 3 C n c L:=by
 cases B with
 | none=>exact H.below ((Below.refl _ _).grown hg aW (fun k hk=>by cases hk)) aW
 | some a=>
   refine H.kp (Keep.one hg) (fun g hg' e9=>?_);obtain⟨cs,q⟩:=H.blk hg';exact ho.ne_ q he (by rw[e9];rfl)
theorem eW.app (H:eW w base A N c Ls){h:SlV}{L:List Int}(hL:Ow iv w base 3 h.a h.n h.c L):∃ hs:List SlV,Ow slV w base 22 A N c hs /\
 ∀ A' c' w',Ow slV w' base 22 A' (N+1) c' (hs ++ [h])->w.grownBy w' (A.map (·.block))->eW w' base A' (N+1) c' (Ls ++ [L]):=by
 obtain⟨a1,hs,ho,hi⟩:=H;refine⟨hs,ho,fun A' c' w' ho' hg=>?_⟩;have hhs:=ho.1;refine⟨by simp[a1],hs ++ [h],ho',fun k y Y q1 q2=>?_⟩;rcases az k N with hk | hk
 · rw[aP aS] at q1 q2;exact (hi k y Y q1 q2).other ho aU hg
 · have hk9:k=N:=by
    have:=(List.getElem?_eq_some_iff.1 q1).1;rw[ay,hhs,aL] at this;omega
   subst hk9;rw[aK aS,hhs,Nat.sub_self] at q1;rw[aK aS,a1,Nat.sub_self] at q2;simp only[List.getElem?_cons_zero,Option.some.injEq] at q1 q2;subst q1 q2;exact hL.other ho aU hg
theorem pj (w:World)(h:SlV):Rd slV (w.alloc (.cells #[.slice h.a h.n h.c] 22)) (some ⟨w.heap.size,0,none⟩) 1 [h]:=Rd.of_block (l:=[h]) (Blk.top _ rfl rfl) rfl
theorem gN.at_ (h:gN w A N Ls){k:Nat}(hk:k<N):∃ b o B n d L,A=some ⟨b,o,none⟩/\b<w.heap.size/\w.cell? ⟨b,o+k,none⟩=some (.slice B n d)/\Ls[k]?=some L/\RI w B n L/\n<=maxLen:=by
 obtain⟨hl,hs,hr,hq⟩:=h;obtain⟨b,o,hB,hb,hc⟩:=hr.2.at_ hk;have h1:k<hs.length:=by rw[hr.1];exact hk
 have h2:k<Ls.length:=aS;obtain⟨e1,e2⟩:=hq k hs[k] Ls[k] (ap h1) (ap h2);refine⟨b,o,hs[k].a,hs[k].n,hs[k].c,Ls[k],hB,hb,?_,ap h2,e1,e2⟩;rw[hc,gO hs k h1]
 rfl
end
section
variable {M:List TypeId} {w w':World} {base g m cc many k tick:Nat} {q:bw} {p:PV} {pace rep ran:Int} {calm:Bool} {rows all:List (List Int)} {x:PA}
theorem kZ (w:World)(h:SlV):Below w.heap.size w (w.alloc (.cells #[.slice h.a h.n h.c] 22)):=(Below.refl _ _).alloc aW _
theorem StOn.disk (h:StOn w base q g p m cc pace many calm rows tick rep):∃ D,bc w base q D:=by
 obtain⟨D,E,e,hd,_⟩:=h.ex;exact⟨D,hd⟩
theorem StOn.stepM {D':aX}(h:StOn w base q g p m cc pace many calm rows tick rep)(t:Step M base q w w')(hD:∀ D,bc w base q D->bc w' base q D)(hM:∀ x ∈ engT,x ∉ 4 :: M)(hE:180 ∉ 4 :: M):StOn w' base q g p m cc pace many calm rows tick rep:=by
 obtain⟨D,E,e,hd,hi,h2⟩:=h.ex;exact⟨ah h.hs t.size,D,E,e,hD D hd,⟨hd.blk hi.b t.tch hE,hi.gb,hi.r.step hd t hM⟩,h2⟩
theorem StOn.app {A:Option Addr}{hs:List SlV}(h:StOn w base q g p m cc pace many calm rows tick rep)(ho:Ow slV w lim 22 A n c hs)(hg:w.grownBy w' (A.map (·.block)))(hl:base<=lim):StOn w' base q g p m cc pace many calm rows tick rep/\Step [22] base q w w':=by
 have s:=Step.of_app (p:=q) (ho.rebase hl) hg h.hs;exact⟨h.stepM (D':=newV 1 1) s (fun D hd=>hd.grown ho hg aU) aU aU,s⟩
theorem Step.new_app {enc:α->Value}{A:Option Addr}{l:List α}{w5 w6:World}(h:Step M base q w w5)(ho:Ow enc w5 lim e A n c l)(hl:w.heap.size<=lim)(hb:base<=w.heap.size)(hg:w5.grownBy w6 (A.map (·.block))):Step M base q w w6:=by
 have s:=Step.of_app (base:=base) (p:=q) (ho.rebase (ah hb hl)) hg (ah hb h.size);obtain⟨F,hF,tF⟩:=h.tch;refine⟨h.bel.trans s.bel,fun g=>F g\/A.map (·.block)=some g,(hF.mono (fun g _ e=>.inl e)).trans (Keep.of_grown (F:=fun g=>A.map (·.block)=some g) hg (fun g e=>e)) (fun g _ e=>.inr e),fun g t cs e hbk=>?_⟩;rcases e with e | e
 · exact tF g t cs e hbk
 · have h1:=(ho.lt g e).1;have h2:=hbk.lt;omega
theorem outputs_any (V:Env p m pace many)(h:StOn w base q g p m cc pace many calm rows tick rep) :
 Ca 34 #[.pointer (some ⟨g,0,none⟩)] w fun e w'=>∃ A c,e=.returned (.tuple #[.slice A tick c,.bool true])/\eW w' w.heap.size A tick c (cE p rows tick)/\StOn w' base q g p m cc pace many calm rows tick rep/\Step mutE base q w w':=by
 have HS:=aT (fun t=>nA p rows t);have ho0:cE p rows 0=[]:=rfl;have cT:=aT (show ∀ (t:Nat),t<tick->∀ W,StOn W base q g p m cc pace many calm rows tick rep->Ca 98 #[.pointer (some ⟨g,0,none⟩),I (t:Nat)] W fun e' w'=>∃ B k d,e'=.returned (.tuple #[.slice B k d,I 0])/\Ow iv w' W.heap.size 3 B k d (dx p rows t)/\StOn w' base q g p m cc pace many calm rows tick rep/\Step mutE base q W w' from fun t ht W h=>t_output V h t ht);generalize cE p rows=OV at *;generalize dx p rows=GV at *;obtain⟨hle,hlm,_,_,_⟩:=h.le;have hm2:=V.g.m2;have H:=aT h;have hs:=h.hs;have cA:=(t_stat h).mono (fun e' w' (hp:∃ pa sv,e'=.returned (.agg #[I (rows.length:Nat),I (tick:Nat),I (tick:Nat),I pa,I rep,I sv])/\0<=pa/\pa<pace/\pa<=tick/\0<=sv/\sv<=tick/\Below w.heap.size w w')=>(show ∃ pa sv,e'=.returned (.agg #[I (rows.length:Nat),I (tick:Nat),I (tick:Nat),I pa,I rep,I sv])/\Below w.heap.size w w' from by obtain⟨pa,sv,a,_,_,_,_,_,b⟩:=hp;exact⟨pa,sv,a,b⟩));have hfd:=fun pa sv W=>statf1 (rows.length:Nat) (tick:Nat) (tick:Nat) pa rep sv W
 clear h;go_enter Tryz.func34,Tryz.ntmps34;go_wp2_with (first | ((go_at_call 29;(with_reducible refine (cA).mono ?_);rintro e w2 ⟨pa,sv,rfl,b2⟩);have H2:=aT (H.out.below b2);have T2:=aT (Step.of_below (M:=mutE) (p:=q) b2 hs);have B2:=aT b2;clear b2) | fail);clear cA hfd;go_loopw [4,11] (fun v i wr=>∃ (k:Nat) (A:Option Addr) (c:Nat),k<=tick/\i=I (k:Nat)/\v=.slice A k c/\Hid (eW wr w.heap.size A k c (OV k))/\Hid (StOn wr base q g p m cc pace many calm rows tick rep)/\Hid (Step mutE base q w wr)) (fun _ i _=>tick - (intOf i).toNat)
 case atStart=>exact⟨0,none,0,aS,rfl,rfl,(by first | exact eW.nil _ _ | (rw[ho0];exact eW.nil _ _)),H2.out,T2.out⟩
 case round=>
  clear H2 T2 B2 H;obtain⟨k,A,c,hk,rfl,rfl,hR,hO,hT⟩:=hrel;have hws:=hT.out.size;have hbs:=hO.out.hs
  by_cases hlt:k<tick
  · skip
    have ct:=cT.out k hlt wr hO.out;obtain⟨D9,hd9⟩:=hO.out.disk;have HS9:=aT (HS.out k);clear cT HS;go_upto_region 8 with (first | ((go_at_call 98;(with_reducible refine (ct).mono ?_);rintro e w5 ⟨B5,k5,d5,rfl,o5,O5',s5⟩);have O5:=aT O5';have R5:=aT (hR.out.step hd9 s5 aU aU);have T5:=aT (hT.out.trans s5);have N5:=aT (o5.rebase (base':=w.heap.size) hws);clear o5 O5' s5) | fail);have sz5:=T5.out.size;obtain⟨hhs,how,happ⟩:=(R5.out.below (kZ w5 ⟨B5,k5,d5⟩)).app (h:=⟨B5,k5,d5⟩) (N5.out.below (kZ w5 ⟨B5,k5,d5⟩) aW);have HOW:=aT how;have HAP:=aT happ;clear how happ;go_wp2_with (first | (at_builtin;refine dm rfl rfl elemRows slV_one (s:=.tmp 22) (N:=k+1) (L:=hhs ++ [⟨B5,k5,d5⟩]) rfl HOW.out rfl (k:=[⟨B5,k5,d5⟩]) (pj w5 ⟨B5,k5,d5⟩) rfl rfl bI aS (ah sz5 (kZ w5 ⟨B5,k5,d5⟩).size) ?_;intro A6 c6 w6 hown6 hg6 hat6 hb6) | fail);have R6:=aT (HAP.out A6 c6 w6 hown6 hg6);have hz6:=(kZ w5 ⟨B5,k5,d5⟩).size;obtain⟨O6',s6⟩:=(O5.out.below (kZ w5 ⟨B5,k5,d5⟩)).app HOW.out hg6 (by have:=hO.out.hs;omega);have O6:=aT O6';have T6:=aT ((T5.out.trans (Step.of_below (M:=mutE) (p:=q) (kZ w5 ⟨B5,k5,d5⟩) O5.out.hs)).new_app HOW.out aW hs hg6);clear O6' s6;go_roundw
    case rel=>first
     | exact⟨k+1,A6,c6,aS,by go_num,rfl,(by have:=R6.out;rw[HS9.out] at this;exact this),O6.out,T6.out⟩
     | ((repeat apply Exists.intro);exact⟨⟨k+1,A6,c6,aS,by go_num,rfl,(by have:=R6.out;rw[HS9.out] at this;exact this),O6.out,T6.out⟩,rfl⟩)
    case measure=>simp[intOf];omega
  · have hk9:k=tick:=aS;subst hk9;go_wp2_with fail;go_returns;exact⟨A,c,rfl,hR.out,hO.out,hT.out⟩
theorem s_crashR (h:bc w base q D)(hs:base<=w.heap.size)(B:Option Addr)(n d:Nat)(cs:List UInt8)(hl:RB w B n cs)(hB:0<n->fD w base 5 B)(hn:n<=maxLen) :
 Ca 43 #[.pointer (some ⟨q.d,0,none⟩),.slice B n d] w fun e w'=>e=.returned (.tuple #[])/\bc w' base q (fC D cs)/\Step mutD base q w w':=by
 obtain⟨A,c,h⟩:=h;refine (crash_any h B n d cs hl (fun h0 g hg e=>?_) hn).mono fun e w' ⟨h1,h2⟩=>⟨h1,h2.s,Step.of_next h hs h2⟩
 rcases hB h0 g e with r | ⟨xs,r⟩
 · have:=h.bs g hg;omega
 · rcases h.foot_ty r hg with z | z | z | z | z <;> exact absurd z aU
theorem t_formatS (V:Env p m pace many){N:Secs}(hd:bc w base q D)(hr:Rest D N)(hm:D.many=many)(hs:base<=w.heap.size)(hx:db w x p) :
 Ca 27 #[.pointer (some ⟨q.d,0,none⟩),.agg #[.slice x.A1 x.n1 x.c1,.slice x.A2 x.n2 x.c2,I p.regs,.slice x.A3 x.n3 x.c3,.slice x.A4 x.n4 x.c4]] w fun e' w'=>Step mutE base q w w'/\∃ z D',e'=.returned (I z)/\bc w' base q D'/\D'.many=many/\Safe D' anyP :=
 (t_format V hd hr hm hs hx).mono fun e' w' ⟨s,z,h1,h2⟩=>by
  rcases h2 with ⟨_,h3⟩ | ⟨_,_,D',h3,h4,h5⟩
  · obtain⟨D',N',a1,a2,a3,_,_⟩:=h3.ex;exact⟨s,z,D',h1,a1,a3,(a2.pow (fun _ _=>trivial)).safe⟩
  · exact⟨s,z,D',h1,h3,h4,h5⟩
theorem rest_load {img:List UInt8}(h0:1<=many)(h1:many<=4096)(h:img.length<=many * 128):Rest (ig many many img (gH img)) (fun s=>bM (ig many many img (gH img)).now (s:Int)) :=
 ⟨⟨loadD_ok h0 h1 aS aS h (by unfold gH;omega),rfl,rfl,rfl,rfl⟩,rfl,fun _ _=>rfl⟩
theorem delay_fits {l:List Int}(h:l.length=1):cd dS.ins l=true:=by
 refine iO.2 ⟨by decide +kernel,h,fun i hi=>?_⟩;have hi0:i=0:=by
  have:dS.ins.length=1:=rfl;omega
 subst hi0;exact fun e=>absurd e bP
end
end Go.Proofs.YtmeebofhlilcmaaGreat
