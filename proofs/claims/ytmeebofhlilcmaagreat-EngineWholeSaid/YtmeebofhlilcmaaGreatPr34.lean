/- Parts. -/
import Derived.Test.YtmeebofhlilcmaaGreatPr33
import Derived.ArgAppend
set_option linter.unusedVariables false
set_option linter.unusedSimpArgs false
set_option maxRecDepth 100000
set_option maxHeartbeats 0
namespace Go.Proofs.YtmeebofhlilcmaaGreat
variable {m n c lim:Nat} {α:Type} {e:TypeId}
open Go.RowKit
def eF:PV:=⟨[1],[1],2,[(1,0)],[⟨28,0,0,0,0⟩,⟨21,1,0,0,0⟩,⟨32,0,0,0,0⟩,⟨29,1,0,0,0⟩]⟩
theorem delay_right:dJ eF=true:=by decide +kernel
theorem delay_wf:eI eF:=⟨by decide +kernel,by decide +kernel⟩
def ProgNew (w:World)(P:PV)(e:Ending)(w':World):Prop:=∃ x:PA,e=.returned (.agg #[.slice x.A1 x.n1 x.c1,.slice x.A2 x.n2 x.c2,I P.regs,.slice x.A3 x.n3 x.c3,.slice x.A4 x.n4 x.c4])/\(∀ base,ed w' base x P)/\Below w.heap.size w w'
theorem delay_at {W:World}{g1 g2 g3 g4:Nat}(b1:Blk W g1 3 [I 1])(b2:Blk W g2 3 [I 1])(b3:Blk W g3 187 [I 1,I 0])
 (b4:Blk W g4 144 [I 28,I 0,I 0,I 0,I 0,I 21,I 1,I 0,I 0,I 0,I 32,I 0,I 0,I 0,I 0,I 29,I 1,I 0,I 0,I 0]) (base:Nat) :
 ed W base ⟨some ⟨g1,0,none⟩,1,1,some ⟨g2,0,none⟩,1,1,some ⟨g3,0,none⟩,1,1,some ⟨g4,0,none⟩,4,4⟩ eF:=by
 have mx:∀ n:Nat,n<=4->n<=n/\n<=maxLen:=fun n hn=>⟨Nat.le_refl _,by unfold maxLen;omega⟩
 refine⟨⟨(Rd.of_block (enc:=iv) (l:=[1]) b1 rfl).ri,(Rd.of_block (enc:=iv) (l:=[1]) b2 rfl).ri,RdS.of_block b3 im (l:=[(1,0)]) rfl,RdS.of_block b4 gY (l:=[⟨28,0,0,0,0⟩,⟨21,1,0,0,0⟩,⟨32,0,0,0,0⟩,⟨29,1,0,0,0⟩]) rfl,mx 1 aS,mx 1 aS,mx 1 aS,mx 4 aS⟩,fun _ g hg=>?_,fun _ g hg=>?_,fun _ g hg=>?_,fun _ g hg=>?_⟩
 · simp only[Option.map_some,Option.some.injEq] at hg;subst hg;exact .inr ⟨_,b1⟩
 · simp only[Option.map_some,Option.some.injEq] at hg;subst hg;exact .inr ⟨_,b2⟩
 · simp only[Option.map_some,Option.some.injEq] at hg;subst hg;exact .inr ⟨_,b3⟩
 · simp only[Option.map_some,Option.some.injEq] at hg;subst hg;exact .inr ⟨_,b4⟩
theorem delay_any (w:World):Ca 26 #[] w (ProgNew w eF):=by
 go_enter Tryz.func26,Tryz.ntmps26;go_wp2;refine bodyPost_ret (v:=.agg #[.slice (some ⟨w.heap.size+1,0,none⟩) 1 1,.slice (some ⟨w.heap.size+1+1,0,none⟩) 1 1,I 2,.slice (some ⟨w.heap.size+1+1+1,0,none⟩) 1 1,.slice (some ⟨w.heap.size+1+1+1+1,0,none⟩) 4 4]) (by simp[results,Tryz.results26,go_sem]) rfl ?_;refine⟨_,rfl,fun base=>delay_at (g1:=w.heap.size+1) (g2:=w.heap.size+1+1) (g3:=w.heap.size+1+1+1) (g4:=w.heap.size+1+1+1+1) ?_ ?_ ?_ ?_ base,bc⟩
 · exact (((Blk.top _ ba rfl).alloc _).alloc _).alloc _
 · exact ((Blk.top _ ba rfl).alloc _).alloc _
 · exact (Blk.top _ ba rfl).alloc _
 · exact Blk.top _ ba rfl
section
variable {w w':World} {base g m c many k tick:Nat} {q:bC} {p:PV} {pace rep ran:Int} {rows all:List (List Int)} {x:PA}
theorem pf (V:Env p m pace many)(h:StOn w base q g p m c pace many true rows tick rep)(B:Option Addr)(n d:Nat)(l:List Int)(hl:RI w B n l)(hn:n<=maxLen)(hi:eV l)(hf:cB p.ins l=true)(hlt:rows.length<m) :
 Ca 31 #[.pointer (some ⟨g,0,none⟩),.slice B n d] w fun e' w'=>e'=.returned (.tuple #[I (rows.length:Nat),I 0])/\StOn w' base q g p m c pace many true (rows ++ [l]) tick rep/\Step mutE base q w w' :=
 (t_submit V h B n d l hl hn hi).mono fun e' w' ⟨s,v,z,h1,h2⟩=>by
  rcases h2 with ⟨_,_,x,_⟩ | ⟨_,_,_,x,_⟩ | ⟨rfl,rfl,_,_,x⟩ | ⟨_,_,_,_,x,_⟩
  · rw[hf] at x;cases x
  · omega
  · exact⟨h1,x,s⟩
  · cases x
theorem c_run (V:Env p m pace many)(h:StOn w base q g p m c pace many true rows tick rep)(most:Int)(hmo:0<=most)(hcb:c<7000000000000000000)(n:Nat)(hn:min most ((rows.length:Int) - tick)=(n:Int)) :
 Ca 33 #[.pointer (some ⟨g,0,none⟩),I most] w fun e' w'=>e'=.returned (.tuple #[I (n:Nat),I 0])/\StOn w' base q g p m (c+2000) pace many true rows (tick+n) rep/\Step mutE base q w w' :=
 (t_run V h most hmo hcb).mono fun e' w' ⟨s,v,z,h1,h2⟩=>by
  rcases h2 with ⟨rfl,x1,x2⟩ | ⟨_,_,_,x,_⟩
  · have e:=x1.trans hn;subst e;exact⟨h1,by simpa using x2,s⟩
  · cases x
theorem c_open (V:Env p m pace many)(h:gw w base q p m c pace many true k all ran)(hx:ed w base x p)(hcb:c<7000000000000000000)(hk:k=all.length) :
 Ca 25 #[.pointer (some ⟨q.d,0,none⟩),.agg #[.slice x.A1 x.n1 x.c1,.slice x.A2 x.n2 x.c2,I p.regs,.slice x.A3 x.n3 x.c3,.slice x.A4 x.n4 x.c4],I pace] w fun e' w'=>
  ∃ g rep,e'=.returned (.tuple #[.pointer (some ⟨g,0,none⟩),I 0])/\StOn w' base q g p m (c+2000) pace many true all all.length rep/\Step mutE base q w w' :=
 (t_open V h hx hcb).mono fun e' w' ⟨s,g,z,h1,h2⟩=>by
  rcases h2 with ⟨rfl,nx,rep,x1,x2,x3,x4,x5⟩ | ⟨_,x,_⟩
  · have e:nx=all.length:=aS;subst e;rw[List.take_length] at x5;exact⟨g,rep,h1,x5,s⟩
  · cases x
theorem c_format (V:Env p m pace many){D:aX}{N:Secs}(hd:bj w base q D)(hr:Rest D N)(hm:D.many=many)(hc:D.cut=-1)(hs:base<=w.heap.size)(hx:ca w x p) :
 Ca 27 #[.pointer (some ⟨q.d,0,none⟩),.agg #[.slice x.A1 x.n1 x.c1,.slice x.A2 x.n2 x.c2,I p.regs,.slice x.A3 x.n3 x.c3,.slice x.A4 x.n4 x.c4]] w fun e' w'=>e'=.returned (I 0)/\gw w' base q p m 0 pace many true 0 [] 0/\Step mutE base q w w' :=
 (t_format V hd hr hm hs hx).mono fun e' w' ⟨s,z,h1,h2⟩=>by
  rcases h2 with ⟨rfl,x⟩ | ⟨_,x,_⟩
  · rw[am hc] at x;exact⟨h1,x,s⟩
  · exact absurd hc x
end
theorem delay_env {many:Nat}{pace:Int}(h1:13<=many)(h2:many<=2059)(hm:m=(many - 11) / 2)(p1:1<=pace)(p2:pace<=1024):Env eF m pace many:=Env.of delay_right delay_wf h1 h2 hm p1 p2
theorem statf0 (a b c d e f:Int)(w:World):(Instr.field 54 (.agg #[I a,I b,I c,I d,I e,I f]) 0).run Tryz.prog w=.ok (I a) w:=by kernel_rfl
theorem statf1 (a b c d e f:Int)(w:World):(Instr.field 54 (.agg #[I a,I b,I c,I d,I e,I f]) 1).run Tryz.prog w=.ok (I b) w:=by kernel_rfl
def iw:List (List Int):=[[5],[6],[7]]
theorem awake38 (w:World):Ca 24 #[] w fun e w'=>e=.returned (.bool true)/\Below w.heap.size w w':=by
 have V:Env eF 10 2 31:=delay_env aS aS rfl aS aS;have hnew:∀ w,Ca 28 #[I 31,I 31] w fun e' w'=>∃ q,e'=.returned (.tuple #[.pointer (some ⟨q.d,0,none⟩),I 0])/\bj w' w.heap.size q (newV 31 31)/\Below w.heap.size w w':=fun w=>t_new (many:=31) w aS aS
 have hrn:=rest_new (many:=31) aS aS;have hmn:(newV 31 31).many=31:=rfl;have hcn:(newV 31 31).cut=-1:=rfl;have f5:cB eF.ins [5]=true:=by decide +kernel
 have f6:cB eF.ins [6]=true:=by decide +kernel
 have f7:cB eF.ins [7]=true:=by decide +kernel
 have g2:dL eF iw 2=[6]:=by decide +kernel
 have ik:∀ z:Int,0<=z->z<=10->eV [z]:=fun z h0 h1 i hi=>by
  have:i=0:=by simpa using hi
  subst this
  show -9223372036854775808<=z/\z<=9223372036854775807
  omega
 have cD:=fun (W:World)=>delay_any W
 have cF:=fun {W:World} {base:Nat} {q:bC} {x:PA} (hd:bj W base q (newV 31 31)) (hs:base<=W.heap.size) (hx:ca W x eF)=>c_format V hd hrn hmn hcn hs hx
 have cO1:=fun {W:World} {base:Nat} {q:bC} {x:PA} (h:gw W base q eF 10 0 2 31 true 0 [] 0) (hx:ed W base x eF)=>c_open V h hx aS rfl
 have cS:∀ {W:World} {base g gb:Nat} {q:bC} {rep:Int} {k:Nat},k<3->StOn W base q g eF 10 2000 2 31 true (iw.take k) 0 rep->RI W (some ⟨gb,0,none⟩) 1 [(k:Int)+5] ->
  Ca 31 #[.pointer (some ⟨g,0,none⟩),.slice (some ⟨gb,0,none⟩) 1 1] W fun e' w'=>e'=.returned (.tuple #[I (k:Nat),I 0])/\StOn w' base q g eF 10 2000 2 31 true (iw.take (k+1)) 0 rep/\Step mutE base q W w':=by
  intro W base g gb q rep k hk h hl;have hc:k=0\/k=1\/k=2:=aS;rcases hc with rfl | rfl | rfl
  · exact pf V h _ 1 1 [5] hl aV (ik 5 aS aS) f5 aV
  · exact pf V h _ 1 1 [6] hl aV (ik 6 aS aS) f6 aV
  · exact pf V h _ 1 1 [7] hl aV (ik 7 aS aS) f7 aV
 have cR:=fun {W:World} {base g:Nat} {q:bC} {rep:Int} (h:StOn W base q g eF 10 2000 2 31 true (iw.take 3) 0 rep)=>
  (show Ca 33 #[.pointer (some ⟨g,0,none⟩),I 1] W fun e' w'=>e'=.returned (.tuple #[I 1,I 0])/\StOn w' base q g eF 10 4000 2 31 true iw 1 rep/\Step mutE base q W w' from c_run V h 1 aS aS 1 aV)
 have cC:=fun {W:World} {base g:Nat} {q:bC} {rep:Int} (h:StOn W base q g eF 10 4000 2 31 true iw 1 rep)=>
  (show Ca 43 #[.pointer (some ⟨q.d,0,none⟩),.slice none 0 0] W fun e' w'=>e'=.returned (.tuple #[])/\gw w' base q eF 10 4000 2 31 true 3 iw 1/\Step mutE base q W w' from t_crash h.may none 0 0 [] ⟨rfl,Row.nil _ _ _⟩ (fun h=>absurd h aS) aS)
 have cO2:=fun {W:World} {base:Nat} {q:bC} {x:PA} (h:gw W base q eF 10 4000 2 31 true 3 iw 1) (hx:ed W base x eF)=>(show Ca 25 #[.pointer (some ⟨q.d,0,none⟩),.agg #[.slice x.A1 x.n1 x.c1,.slice x.A2 x.n2 x.c2,I eF.regs,.slice x.A3 x.n3 x.c3,.slice x.A4 x.n4 x.c4],I 2] W fun e' w'=>
  ∃ g rep,e'=.returned (.tuple #[.pointer (some ⟨g,0,none⟩),I 0])/\StOn w' base q g eF 10 6000 2 31 true iw 3 rep/\Step mutE base q W w' from c_open V h hx aS rfl)
 have cT:=fun {W:World} {base g:Nat} {q:bC} {rep:Int} (h:StOn W base q g eF 10 6000 2 31 true iw 3 rep)=>
  (show Ca 98 #[.pointer (some ⟨g,0,none⟩),I 2] W fun e' w'=>∃ B k d,e'=.returned (.tuple #[.slice B k d,I 0])/\Ow iv w' W.heap.size 3 B k d [6]/\StOn w' base q g eF 10 6000 2 31 true iw 3 rep/\Step mutE base q W w' from by
   have:=t_output V h 2 aS;rw[g2] at this;exact this)
 have cA:=fun {W:World} {base g:Nat} {q:bC} {rep:Int} (h:StOn W base q g eF 10 6000 2 31 true iw 3 rep)=>
  (show Ca 29 #[.pointer (some ⟨g,0,none⟩)] W fun e' w'=>∃ pa sv,e'=.returned (.agg #[I 3,I 3,I 3,I pa,I rep,I sv])/\Below W.heap.size W w' from
   (t_stat h).mono fun e' w' ⟨pa,sv,h1,_,_,_,_,_,h2⟩=>⟨pa,sv,h1,h2⟩)
 have hfd:=fun pa rep sv w=>statf1 3 3 3 pa rep sv w
 clear V hrn hmn hcn f5 f6 f7 g2 ik;generalize newV 31 31=D0 at *;generalize iw=L at *;generalize eF=P at *;go_enter Tryz.func24,Tryz.ntmps24;go_wp2_with (first | ((go_at_call 28;(with_reducible refine (hnew _).mono ?_);rintro e w1 ⟨q,rfl,d1,b1⟩);have D1:=aT d1;have B1:=aT b1;have S1:=b1.size;clear d1 b1) | ((go_at_call 26;(with_reducible refine (cD _).mono ?_);rintro e w2 ⟨x2,rfl,px2,bx2⟩);have D2:=aT (D1.out.below bx2);have B2:=aT (B1.out.trans (bx2.mono B1.out.size));have P2:=aT (px2 0).rd;have S2:=B2.out.size;clear px2 bx2 D1) | ((go_at_call 27;(with_reducible refine (cF D2.out S2 P2.out).mono ?_);rintro e w3 ⟨rfl,r3,s3⟩);have R3:=aT r3;have B3:=aT (B2.out.trans s3.bel);clear r3 s3 D2) | ((go_at_call 26;(with_reducible refine (cD _).mono ?_);rintro e w4 ⟨x4,rfl,px4,bx4⟩);have R4:=aT (R3.out.below bx4);have B4:=aT (B3.out.trans (bx4.mono B3.out.size));have P4:=aT (px4 w.heap.size);clear px4 bx4 R3) | ((go_at_call 25;(with_reducible refine (cO1 R4.out P4.out).mono ?_);rintro e w5 ⟨g5,rep5,rfl,o5,s5⟩);have O5:=aT o5;have B5:=aT (B4.out.trans s5.bel);clear o5 s5 R4) | fail);go_loopw [28] (fun i wr=>∃ k:Nat,k<=3/\i=I (k:Nat)/\Hid (StOn wr w.heap.size q g5 P 10 2000 2 31 true (L.take k) 0 rep5)/\Hid (Below w.heap.size w wr)) (fun i _=>3 - (intOf i).toNat)
 case atStart=>exact⟨0,aS,rfl,O5.out,B5.out⟩
 case round=>
  obtain⟨k,hk,rfl,hO,hB⟩:=hrel;have hs:=hB.out.size;clear O5 B5
  by_cases hlt:k<3
  · go_wp2_with (first | ((go_at_call 31;(with_reducible refine (cS hlt (hO.out.below bc) (Rd.of_block (enc:=iv) (l:=[(k:Int)+5]) (dr _ _ ba) rfl).ri).mono ?_);rintro e w6 ⟨rfl,o6,s6⟩);have O6:=aT o6;have B6:=aT (hB.out.trans ((show Below wr.heap.size wr _ from bc).mono hs |>.trans s6.bel));clear o6 s6) | fail);go_roundw
    case rel=>first
     | exact⟨k+1,aS,by go_num,O6.out,B6.out⟩
     | ((repeat apply Exists.intro);exact⟨⟨k+1,aS,by go_num,O6.out,B6.out⟩,rfl⟩)
    case measure=>simp[intOf];omega
  · have hk3:k=3:=aS;subst hk3;have O8:=aT hO.out;have B8:=aT hB.out;clear hO hB;go_upto_region 15 with (first | ((go_at_call 33;(with_reducible refine (cR O8.out).mono ?_);rintro e w9 ⟨rfl,o9,s9⟩);have O9:=aT o9;have B9:=aT (B8.out.trans s9.bel);clear o9 s9 O8) | ((go_at_call 43;(with_reducible refine (cC O9.out).mono ?_);rintro e w10 ⟨rfl,o10,s10⟩);have R10:=aT o10;have B10:=aT (B9.out.trans s10.bel);clear o10 s10 O9) | ((go_at_call 26;(with_reducible refine (cD _).mono ?_);rintro e w11 ⟨x11,rfl,px11,bx11⟩);have R11:=aT (R10.out.below bx11);have B11:=aT (B10.out.trans (bx11.mono B10.out.size));have P11:=aT (px11 w.heap.size);clear px11 bx11 R10) | ((go_at_call 25;(with_reducible refine (cO2 R11.out P11.out).mono ?_);rintro e w12 ⟨g12,rep12,rfl,o12,s12⟩);have O12:=aT o12;have B12:=aT (B11.out.trans s12.bel);clear o12 s12 R11) | ((go_at_call 98;(with_reducible refine (cT O12.out).mono ?_);rintro e w13 ⟨A13,n13,c13,rfl,w13',o13,s13⟩);have O13:=aT o13;have B13:=aT (B12.out.trans s13.bel);have W13:=aT w13';clear o13 s13 w13' O12) | fail);have hcp:=W13.out.cap;have hI:=fun (W:World) (g:Nat) (h1:RI W A13 n13 [6]) (h2:RI W (some ⟨g,0,none⟩) 1 [6])=>(show Ca 95 #[.slice A13 n13 c13,.slice (some ⟨g,0,none⟩) 1 1] W fun e w'=>e=.returned (.bool true)/\∃ q,w'=W.drewN q from by
     have:=ints_any A13 (some ⟨g,0,none⟩) n13 1 c13 1 [6] [6] W h1 h2 aS;rw[am (rfl:([6]:List Int)=[6])] at this;exact this)
    go_wp2_with (first | ((go_at_call 29;(with_reducible refine (cA O13.out).mono ?_);rintro e w14 ⟨pa,sv,rfl,b14⟩);have B14:=aT (B13.out.trans (b14.mono B13.out.size));have W14:=aT (W13.out.below b14 aW);clear b14) | ((go_at_call 95;(with_reducible refine (hI _ _ (W14.out.below (b:=w14.heap.size) bc aW).rd.ri (Rd.of_block (enc:=iv) (l:=[6]) (dr _ _ ba) rfl).ri).mono ?_);rintro e w15 ⟨rfl,q15,rfl⟩)) | fail);go_ret;exact⟨rfl,B14.out.trans ((show Below w14.heap.size w14 _ from bc).mono B14.out.size)⟩
theorem kJ:dI Tryz.prog 57 22 (.slice none 0 0) 1 24:=dI.mk' Tryz.underlying57 bP rfl aV
def iI (w:World)(B:Option Addr)(N:Nat)(Ls:List (List Int)):Prop:=Ls.length=N/\∃ hs:List SlV,Rd slV w B N hs/\∀ (k:Nat) (h:SlV) (L:List Int),hs[k]?=some h->Ls[k]?=some L->RI w h.a h.n L/\h.n<=maxLen
def ea (w:World)(base lim:Nat)(B:Option Addr)(N c:Nat)(Ls:List (List Int)):Prop :=
 Ls.length=N/\N<=c/\c<=maxLen/\∃ hs:List SlV,(∀ (k:Nat) (h:SlV) (L:List Int),hs[k]?=some h->Ls[k]?=some L->cu w base h.a h.n L) /\
  (Ow slV w lim 22 B N c hs\/(c=N/\Rd slV w B N hs/\(0<N->fM w base 22 B)))
section
variable {M:List TypeId} {w w':World} {base lim N c:Nat} {B:Option Addr} {p:bC} {D:aX} {Ls:List (List Int)}
theorem ea.nil (w:World)(base lim:Nat):ea w base lim none 0 0 []:=⟨rfl,Nat.le_refl _,by unfold maxLen;omega,[],fun k h L h1=>by simp at h1,.inl (Ow.nil _ _ _ _)⟩
theorem ea.len (H:ea w base lim B N c Ls):Ls.length=N/\N<=c/\c<=maxLen:=⟨H.1,H.2.1,H.2.2.1⟩
theorem ea.rd (H:ea w base lim B N c Ls):iI w B N Ls:=by
 obtain⟨a1,a2,a3,hs,hi,ho⟩:=H;refine⟨a1,hs,?_,fun k h L q1 q2=>⟨(hi k h L q1 q2).1,(hi k h L q1 q2).2.1⟩⟩;rcases ho with ho | ho
 · exact ho.rd
 · exact ho.2.1
theorem iI.below {B0:Nat}(h:iI w B N Ls)(hb:Below B0 w w')(hB:w.heap.size<=B0):iI w' B N Ls:=by
 obtain⟨hl,hs,ho,hk⟩:=h;exact⟨hl,hs,ho.below hb hB,fun k x L h1 h2=>⟨(hk k x L h1 h2).1.below hb hB,(hk k x L h1 h2).2⟩⟩
theorem ea.step (H:ea w base lim B N c Ls)(hd:bj w base p D)(k:Step M base p w w')(h1:22 ∉ 4 :: M)(h2:3 ∉ 4 :: M):ea w' base lim B N c Ls:=by
 obtain⟨a1,a2,a3,hs,hi,ho⟩:=H;refine⟨a1,a2,a3,hs,fun k' h L q1 q2=>(hi k' h L q1 q2).step hd k h2,?_⟩;rcases ho with ho | ⟨e,ho,hr⟩
 · exact .inl (hd.ow ho k.tch h1)
 · exact .inr ⟨e,⟨ho.1,ho.2.stepR hr hd k h1⟩,fun h0=>(hr h0).step hd k h1⟩
theorem ea.below (H:ea w base lim B N c Ls)(hb:Below w.heap.size w w'):ea w' base lim B N c Ls:=by
 obtain⟨a1,a2,a3,hs,hi,ho⟩:=H;refine⟨a1,a2,a3,hs,fun k' h L q1 q2=>(hi k' h L q1 q2).below hb,?_⟩;rcases ho with ho | ⟨e,ho,hr⟩
 · exact .inl (ho.below hb aW)
 · refine .inr ⟨e,ho.below hb aW,fun h0 g hg=>?_⟩;rcases hr h0 g hg with q | ⟨cs,q⟩
   · exact .inl q
   · exact .inr ⟨cs,q.below hb q.lt⟩
theorem ea.cut (H:ea w base lim B N c Ls)(hm:m<=N):ea w base lim B m m (Ls.take m):=by
 obtain⟨a1,a2,a3,hs,hi,ho⟩:=H;refine⟨by rw[aA];omega,Nat.le_refl _,aS,hs.take m,fun k x L h1 h2=>?_,.inr ⟨rfl,?_,fun h0=>?_⟩⟩
 · rw[aK] at h1 h2
   split at h1
   · rename_i q;rw[if_pos q] at h2;exact hi k x L h1 h2
   · cases h1
 · rcases ho with ho | ho
   · exact ho.rd.take_ hm
   · exact ho.2.1.take_ hm
 · rcases ho with ho | ho
   · exact fun g hg=>.inr (ho.blk hg)
   · exact ho.2.2 aS
theorem Step.of_app {enc:α->Value}{l:List α}(ho:Ow enc w base e B n c l)(hg:w.grownBy w' (B.map (·.block)))(hs:base<=w.heap.size):Step [e] base p w w':=by
 cases B with
 | none=>
   have hb:=(Below.refl _ _).grown hg aW (fun k hk=>by cases hk);exact Step.of_below hb hs
 | some a=>
   obtain⟨cs,hb⟩:=ho.blk (g:=a.block) rfl;have:=ho.lt a.block rfl;exact Step.one hg hb ba this.1 hs
end
def ei (w:World)(base:Nat)(A:Option Addr)(N c:Nat)(Ls:List (List Int)):Prop :=
 Ls.length=N/\∃ hs:List SlV,Ow slV w base 22 A N c hs/\∀ (k:Nat) (h:SlV) (L:List Int),hs[k]?=some h->Ls[k]?=some L->Ow iv w base 3 h.a h.n h.c L
section
variable {M:List TypeId} {w w':World} {base N c:Nat} {A:Option Addr} {q:bC} {D:aX} {Ls:List (List Int)}
theorem ei.nil (w:World)(base:Nat):ei w base none 0 0 []:=⟨rfl,[],Ow.nil _ _ _ _,fun k h L h1=>by simp at h1⟩
theorem ei.below (H:ei w base A N c Ls)(hb:Below w.heap.size w w'):ei w' base A N c Ls:=by
 obtain⟨a,hs,ho,hk⟩:=H;exact⟨a,hs,ho.below hb aW,fun k h L q1 q2=>(hk k h L q1 q2).below hb aW⟩
theorem ei.rd (H:ei w base A N c Ls):iI w A N Ls:=by
 obtain⟨a,hs,ho,hk⟩:=H;exact⟨a,hs,ho.rd,fun k h L q1 q2=>⟨(hk k h L q1 q2).rd.ri,by have:=(hk k h L q1 q2).cap;omega⟩⟩
theorem ei.lower {b:Nat}(H:ei w base A N c Ls)(hb:b<=base):ei w b A N c Ls:=by
 obtain⟨a,hs,ho,hk⟩:=H;exact⟨a,hs,ho.rebase hb,fun k h L q1 q2=>(hk k h L q1 q2).rebase hb⟩
theorem ei.step {b0:Nat}(H:ei w b0 A N c Ls)(hd:bj w base q D)(k:Step M base q w w')(h1:22 ∉ 4 :: M)(h2:3 ∉ 4 :: M):ei w' b0 A N c Ls:=by
 obtain⟨a,hs,ho,hk⟩:=H;exact⟨a,hs,hd.ow ho k.tch h1,fun k' h L q1 q2=>hd.ow (hk k' h L q1 q2) k.tch h2⟩
theorem Ow.other {enc:α->Value}{B C:Option Addr}{b1 b2 d:Nat}{l:List α}{L:List Int}(H:Ow iv w b1 3 C n c L)(ho:Ow enc w b2 e B m d l)(he:e≠3)(hg:w.grownBy w' (B.map (·.block))):Ow iv w' b1 3 C n c L:=by
 cases B with
 | none=>exact H.below ((Below.refl _ _).grown hg aW (fun k hk=>by cases hk)) aW
 | some a=>
   refine H.kp (Keep.one hg) (fun g hg' e9=>?_);obtain⟨cs,q⟩:=H.blk hg';exact ho.ne_ q he (by rw[e9];rfl)
theorem ei.app (H:ei w base A N c Ls){h:SlV}{L:List Int}(hL:Ow iv w base 3 h.a h.n h.c L):∃ hs:List SlV,Ow slV w base 22 A N c hs /\
 ∀ A' c' w',Ow slV w' base 22 A' (N+1) c' (hs ++ [h])->w.grownBy w' (A.map (·.block))->ei w' base A' (N+1) c' (Ls ++ [L]):=by
 obtain⟨a1,hs,ho,hi⟩:=H;refine⟨hs,ho,fun A' c' w' ho' hg=>?_⟩;have hhs:=ho.1;refine⟨by simp[a1],hs ++ [h],ho',fun k y Y q1 q2=>?_⟩;rcases aw k N with hk | hk
 · rw[aN aS] at q1 q2;exact (hi k y Y q1 q2).other ho aV hg
 · have hk9:k=N:=by
    have:=(List.getElem?_eq_some_iff.1 q1).1;rw[az,hhs,aJ] at this;omega
   subst hk9;rw[aI aS,hhs,Nat.sub_self] at q1;rw[aI aS,a1,Nat.sub_self] at q2;simp only[List.getElem?_cons_zero,Option.some.injEq] at q1 q2;subst q1 q2;exact hL.other ho aV hg
theorem nC (w:World)(h:SlV):Rd slV (w.alloc (.cells #[.slice h.a h.n h.c] 22)) (some ⟨w.heap.size,0,none⟩) 1 [h]:=Rd.of_block (l:=[h]) (Blk.top _ rfl rfl) rfl
theorem iI.at_ (h:iI w A N Ls){k:Nat}(hk:k<N):∃ b o B n d L,A=some ⟨b,o,none⟩/\b<w.heap.size/\w.cell? ⟨b,o+k,none⟩=some (.slice B n d)/\Ls[k]?=some L/\RI w B n L/\n<=maxLen:=by
 obtain⟨hl,hs,hr,hq⟩:=h;obtain⟨b,o,hB,hb,hc⟩:=hr.2.at_ hk;have h1:k<hs.length:=by rw[hr.1];exact hk
 have h2:k<Ls.length:=aS;obtain⟨e1,e2⟩:=hq k hs[k] Ls[k] (ap h1) (ap h2);refine⟨b,o,hs[k].a,hs[k].n,hs[k].c,Ls[k],hB,hb,?_,ap h2,e1,e2⟩;rw[hc,iy hs k h1]
 rfl
end
section
variable {M:List TypeId} {w w':World} {base g m cc many k tick:Nat} {q:bC} {p:PV} {pace rep ran:Int} {calm:Bool} {rows all:List (List Int)} {x:PA}
theorem iJ (w:World)(h:SlV):Below w.heap.size w (w.alloc (.cells #[.slice h.a h.n h.c] 22)):=(Below.refl _ _).alloc aW _
theorem StOn.disk (h:StOn w base q g p m cc pace many calm rows tick rep):∃ D,bj w base q D:=by
 obtain⟨D,E,e,hd,_⟩:=h.ex;exact⟨D,hd⟩
theorem StOn.stepM {D':aX}(h:StOn w base q g p m cc pace many calm rows tick rep)(t:Step M base q w w')(hD:∀ D,bj w base q D->bj w' base q D)(hM:∀ x ∈ engT,x ∉ 4 :: M)(hE:180 ∉ 4 :: M):StOn w' base q g p m cc pace many calm rows tick rep:=by
 obtain⟨D,E,e,hd,hi,h2⟩:=h.ex;exact⟨ag h.hs t.size,D,E,e,hD D hd,⟨hd.blk hi.b t.tch hE,hi.gb,hi.r.step hd t hM⟩,h2⟩
theorem StOn.app {A:Option Addr}{hs:List SlV}(h:StOn w base q g p m cc pace many calm rows tick rep)(ho:Ow slV w lim 22 A n c hs)(hg:w.grownBy w' (A.map (·.block)))(hl:base<=lim):StOn w' base q g p m cc pace many calm rows tick rep/\Step [22] base q w w':=by
 have s:=Step.of_app (p:=q) (ho.rebase hl) hg h.hs;exact⟨h.stepM (D':=newV 1 1) s (fun D hd=>hd.grown ho hg aV) aV aV,s⟩
theorem Step.new_app {enc:α->Value}{A:Option Addr}{l:List α}{w5 w6:World}(h:Step M base q w w5)(ho:Ow enc w5 lim e A n c l)(hl:w.heap.size<=lim)(hb:base<=w.heap.size)(hg:w5.grownBy w6 (A.map (·.block))):Step M base q w w6:=by
 have s:=Step.of_app (base:=base) (p:=q) (ho.rebase (ag hb hl)) hg (ag hb h.size);obtain⟨F,hF,tF⟩:=h.tch;refine⟨h.bel.trans s.bel,fun g=>F g\/A.map (·.block)=some g,(hF.mono (fun g _ e=>.inl e)).trans (Keep.of_grown (F:=fun g=>A.map (·.block)=some g) hg (fun g e=>e)) (fun g _ e=>.inr e),fun g t cs e hbk=>?_⟩;rcases e with e | e
 · exact tF g t cs e hbk
 · have h1:=(ho.lt g e).1;have h2:=hbk.lt;omega
theorem outputs_any (V:Env p m pace many)(h:StOn w base q g p m cc pace many calm rows tick rep) :
 Ca 34 #[.pointer (some ⟨g,0,none⟩)] w fun e w'=>∃ A c,e=.returned (.tuple #[.slice A tick c,.bool true])/\ei w' w.heap.size A tick c (cN p rows tick)/\StOn w' base q g p m cc pace many calm rows tick rep/\Step mutE base q w w':=by
 have HS:=aT (fun t=>oJ p rows t);have ho0:cN p rows 0=[]:=rfl;have cT:=aT (show ∀ (t:Nat),t<tick->∀ W,StOn W base q g p m cc pace many calm rows tick rep->Ca 98 #[.pointer (some ⟨g,0,none⟩),I (t:Nat)] W fun e' w'=>∃ B k d,e'=.returned (.tuple #[.slice B k d,I 0])/\Ow iv w' W.heap.size 3 B k d (dL p rows t)/\StOn w' base q g p m cc pace many calm rows tick rep/\Step mutE base q W w' from fun t ht W h=>t_output V h t ht);generalize cN p rows=OV at *;generalize dL p rows=GV at *;obtain⟨hle,hlm,_,_,_⟩:=h.le;have hm2:=V.g.m2;have H:=aT h;have hs:=h.hs;have cA:=(t_stat h).mono (fun e' w' (hp:∃ pa sv,e'=.returned (.agg #[I (rows.length:Nat),I (tick:Nat),I (tick:Nat),I pa,I rep,I sv])/\0<=pa/\pa<pace/\pa<=tick/\0<=sv/\sv<=tick/\Below w.heap.size w w')=>(show ∃ pa sv,e'=.returned (.agg #[I (rows.length:Nat),I (tick:Nat),I (tick:Nat),I pa,I rep,I sv])/\Below w.heap.size w w' from by obtain⟨pa,sv,a,_,_,_,_,_,b⟩:=hp;exact⟨pa,sv,a,b⟩));have hfd:=fun pa sv W=>statf1 (rows.length:Nat) (tick:Nat) (tick:Nat) pa rep sv W
 clear h;go_enter Tryz.func34,Tryz.ntmps34;go_wp2_with (first | ((go_at_call 29;(with_reducible refine (cA).mono ?_);rintro e w2 ⟨pa,sv,rfl,b2⟩);have H2:=aT (H.out.below b2);have T2:=aT (Step.of_below (M:=mutE) (p:=q) b2 hs);have B2:=aT b2;clear b2) | fail);clear cA hfd;go_loopw [4,11] (fun v i wr=>∃ (k:Nat) (A:Option Addr) (c:Nat),k<=tick/\i=I (k:Nat)/\v=.slice A k c/\Hid (ei wr w.heap.size A k c (OV k))/\Hid (StOn wr base q g p m cc pace many calm rows tick rep)/\Hid (Step mutE base q w wr)) (fun _ i _=>tick - (intOf i).toNat)
 case atStart=>exact⟨0,none,0,aS,rfl,rfl,(by first | exact ei.nil _ _ | (rw[ho0];exact ei.nil _ _)),H2.out,T2.out⟩
 case round=>
  clear H2 T2 B2 H;obtain⟨k,A,c,hk,rfl,rfl,hR,hO,hT⟩:=hrel;have hws:=hT.out.size;have hbs:=hO.out.hs
  by_cases hlt:k<tick
  · skip
    have ct:=cT.out k hlt wr hO.out;obtain⟨D9,hd9⟩:=hO.out.disk;have HS9:=aT (HS.out k);clear cT HS;go_upto_region 8 with (first | ((go_at_call 98;(with_reducible refine (ct).mono ?_);rintro e w5 ⟨B5,k5,d5,rfl,o5,O5',s5⟩);have O5:=aT O5';have R5:=aT (hR.out.step hd9 s5 aV aV);have T5:=aT (hT.out.trans s5);have N5:=aT (o5.rebase (base':=w.heap.size) hws);clear o5 O5' s5) | fail);have sz5:=T5.out.size;obtain⟨hhs,how,happ⟩:=(R5.out.below (iJ w5 ⟨B5,k5,d5⟩)).app (h:=⟨B5,k5,d5⟩) (N5.out.below (iJ w5 ⟨B5,k5,d5⟩) aW);have HOW:=aT how;have HAP:=aT happ;clear how happ;go_wp2_with (first | (at_builtin;refine dw rfl rfl kJ slV_one (s:=.tmp 22) (N:=k+1) (L:=hhs ++ [⟨B5,k5,d5⟩]) rfl HOW.out rfl (k:=[⟨B5,k5,d5⟩]) (nC w5 ⟨B5,k5,d5⟩) rfl rfl bM aS (ag sz5 (iJ w5 ⟨B5,k5,d5⟩).size) ?_;intro A6 c6 w6 hown6 hg6 hat6 hb6) | fail);have R6:=aT (HAP.out A6 c6 w6 hown6 hg6);have hz6:=(iJ w5 ⟨B5,k5,d5⟩).size;obtain⟨O6',s6⟩:=(O5.out.below (iJ w5 ⟨B5,k5,d5⟩)).app HOW.out hg6 (by have:=hO.out.hs;omega);have O6:=aT O6';have T6:=aT ((T5.out.trans (Step.of_below (M:=mutE) (p:=q) (iJ w5 ⟨B5,k5,d5⟩) O5.out.hs)).new_app HOW.out aW hs hg6);clear O6' s6;go_roundw
    case rel=>first
     | exact⟨k+1,A6,c6,aS,by go_num,rfl,mv,O6.out,T6.out⟩
     | ((repeat apply Exists.intro);exact⟨⟨k+1,A6,c6,aS,by go_num,rfl,mv,O6.out,T6.out⟩,rfl⟩)
    case measure=>simp[intOf];omega
  · have hk9:k=tick:=aS;subst hk9;go_wp2_with fail;go_returns;exact⟨A,c,rfl,hR.out,hO.out,hT.out⟩
theorem inputs_any (V:Env p m pace many)(h:StOn w base q g p m cc pace many calm rows tick rep) :
 Ca 132 #[.pointer (some ⟨g,0,none⟩)] w fun e w'=>∃ A c,e=.returned (.tuple #[.slice A rows.length c,.bool true])/\ei w' w.heap.size A rows.length c rows/\StOn w' base q g p m cc pace many calm rows tick rep/\Step mutE base q w w':=by
 have cT:=aT (show ∀ (t:Nat) (l:List Int),rows[t]?=some l->∀ W,StOn W base q g p m cc pace many calm rows tick rep->Ca 141 #[.pointer (some ⟨g,0,none⟩),I (t:Nat)] W fun e' w'=>∃ B k d,e'=.returned (.tuple #[.slice B k d,I 0])/\Ow iv w' W.heap.size 3 B k d l/\StOn w' base q g p m cc pace many calm rows tick rep/\Step mutE base q W w' from fun t l ht W h=>t_input V h t l ht);have HTL:=aT (List.take_length (l:=rows));have ho0:rows.take 0=[]:=rfl;obtain⟨hle,hlm,_,_,_⟩:=h.le;have hm2:=V.g.m2;have H:=aT h;have hs:=h.hs;have cA:=(t_stat h).mono (fun e' w' (hp:∃ pa sv,e'=.returned (.agg #[I (rows.length:Nat),I (tick:Nat),I (tick:Nat),I pa,I rep,I sv])/\0<=pa/\pa<pace/\pa<=tick/\0<=sv/\sv<=tick/\Below w.heap.size w w')=>(show ∃ pa sv,e'=.returned (.agg #[I (rows.length:Nat),I (tick:Nat),I (tick:Nat),I pa,I rep,I sv])/\Below w.heap.size w w' from by obtain⟨pa,sv,a,_,_,_,_,_,b⟩:=hp;exact⟨pa,sv,a,b⟩));have hfd:=fun pa sv W=>statf0 (rows.length:Nat) (tick:Nat) (tick:Nat) pa rep sv W
 clear h;go_enter Tryz.func132,Tryz.ntmps132;go_wp2_with (first | ((go_at_call 29;(with_reducible refine (cA).mono ?_);rintro e w2 ⟨pa,sv,rfl,b2⟩);have H2:=aT (H.out.below b2);have T2:=aT (Step.of_below (M:=mutE) (p:=q) b2 hs);have B2:=aT b2;clear b2) | fail);clear cA hfd;go_loopw [4,11] (fun v i wr=>∃ (k:Nat) (A:Option Addr) (c:Nat),k<=rows.length/\i=I (k:Nat)/\v=.slice A k c/\Hid (ei wr w.heap.size A k c (rows.take k))/\Hid (StOn wr base q g p m cc pace many calm rows tick rep)/\Hid (Step mutE base q w wr)) (fun _ i _=>rows.length - (intOf i).toNat)
 case atStart=>exact⟨0,none,0,aS,rfl,rfl,(by first | exact ei.nil _ _ | (rw[ho0];exact ei.nil _ _)),H2.out,T2.out⟩
 case round=>
  clear H2 T2 B2 H;obtain⟨k,A,c,hk,rfl,rfl,hR,hO,hT⟩:=hrel;have hws:=hT.out.size;have hbs:=hO.out.hs
  by_cases hlt:k<rows.length
  · skip
    obtain⟨L9,hL9⟩:∃ L,rows[k]?=some L:=⟨_,ap hlt⟩;have ct:=cT.out k L9 hL9 wr hO.out;obtain⟨D9,hd9⟩:=hO.out.disk;have HS9:=aT (show rows.take k ++ [L9]=rows.take (k+1) from by rw[List.take_add_one,hL9];rfl);clear cT hL9;go_upto_region 8 with (first | ((go_at_call 141;(with_reducible refine (ct).mono ?_);rintro e w5 ⟨B5,k5,d5,rfl,o5,O5',s5⟩);have O5:=aT O5';have R5:=aT (hR.out.step hd9 s5 aV aV);have T5:=aT (hT.out.trans s5);have N5:=aT (o5.rebase (base':=w.heap.size) hws);clear o5 O5' s5) | fail);have sz5:=T5.out.size;obtain⟨hhs,how,happ⟩:=(R5.out.below (iJ w5 ⟨B5,k5,d5⟩)).app (h:=⟨B5,k5,d5⟩) (N5.out.below (iJ w5 ⟨B5,k5,d5⟩) aW);have HOW:=aT how;have HAP:=aT happ;clear how happ;go_wp2_with (first | (at_builtin;refine dw rfl rfl kJ slV_one (s:=.tmp 22) (N:=k+1) (L:=hhs ++ [⟨B5,k5,d5⟩]) rfl HOW.out rfl (k:=[⟨B5,k5,d5⟩]) (nC w5 ⟨B5,k5,d5⟩) rfl rfl bM aS (ag sz5 (iJ w5 ⟨B5,k5,d5⟩).size) ?_;intro A6 c6 w6 hown6 hg6 hat6 hb6) | fail);have R6:=aT (HAP.out A6 c6 w6 hown6 hg6);have hz6:=(iJ w5 ⟨B5,k5,d5⟩).size;obtain⟨O6',s6⟩:=(O5.out.below (iJ w5 ⟨B5,k5,d5⟩)).app HOW.out hg6 (by have:=hO.out.hs;omega);have O6:=aT O6';have T6:=aT ((T5.out.trans (Step.of_below (M:=mutE) (p:=q) (iJ w5 ⟨B5,k5,d5⟩) O5.out.hs)).new_app HOW.out aW hs hg6);clear O6' s6;go_roundw
    case rel=>first
     | exact⟨k+1,A6,c6,aS,by go_num,rfl,mv,O6.out,T6.out⟩
     | ((repeat apply Exists.intro);exact⟨⟨k+1,A6,c6,aS,by go_num,rfl,mv,O6.out,T6.out⟩,rfl⟩)
    case measure=>simp[intOf];omega
  · have hk9:k=rows.length:=aS;subst hk9;go_wp2_with fail;go_returns;exact⟨A,c,rfl,(by have:=hR.out;rw[HTL.out] at this;exact this),hO.out,hT.out⟩
end
