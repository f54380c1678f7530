/- Parts. -/
import Derived.ArgAppend
import Derived.Test.YtmeebofhlilcmaaGreatPr46
set_option linter.unusedVariables false
set_option linter.unusedSimpArgs false
set_option maxRecDepth 100000
set_option maxHeartbeats 0
namespace Go.Proofs.YtmeebofhlilcmaaGreat
variable {α:Type} {e:TypeId} {n c lim X:Nat}
open Go.RowKit
theorem ox:dO Tryz.prog 57 22 (.slice none 0 0) 1 24:=dO.mk' Tryz.underlying57 bQ rfl aU
def gy (w:World)(B:Option Addr)(N:Nat)(Ls:List (List Int)):Prop:=Ls.length=N/\∃ hs:List SlV,Rd slV w B N hs/\∀ (k:Nat) (h:SlV) (L:List Int),hs[k]?=some h->Ls[k]?=some L->RI w h.a h.n L/\h.n<=maxLen
section
variable {M:List TypeId} {w w':World} {base lim N c:Nat} {B:Option Addr} {p:bJ} {D:aY} {Ls:List (List Int)}
theorem gy.below {B0:Nat}(h:gy w B N Ls)(hb:Below B0 w w')(hB:w.heap.size<=B0):gy w' B N Ls:=by
 obtain⟨hl,hs,ho,hk⟩:=h;exact⟨hl,hs,ho.below hb hB,fun k x L h1 h2=>⟨(hk k x L h1 h2).1.below hb hB,(hk k x L h1 h2).2⟩⟩
theorem Step.of_app {enc:α->Value}{l:List α}(ho:Ow enc w base e B n c l)(hg:w.grownBy w' (B.map (·.block)))(hs:base<=w.heap.size):Step [e] base p w w':=by
 cases B with
 | none=>
   have hb:=(Below.refl _ _).grown hg aV (fun k hk=>by cases hk);exact Step.of_below hb hs
 | some a=>
   obtain⟨cs,hb⟩:=ho.blk (g:=a.block) rfl;have:=ho.lt a.block rfl;exact Step.one hg hb bj this.1 hs
end
def fg (w:World)(base:Nat)(A:Option Addr)(N c:Nat)(Ls:List (List Int)):Prop :=
 Ls.length=N/\∃ hs:List SlV,Ow slV w base 22 A N c hs/\∀ (k:Nat) (h:SlV) (L:List Int),hs[k]?=some h->Ls[k]?=some L->Ow iv w base 3 h.a h.n h.c L
section
variable {M:List TypeId} {w w':World} {base N c:Nat} {A:Option Addr} {q:bJ} {D:aY} {Ls:List (List Int)}
theorem fg.nil (w:World)(base:Nat):fg w base none 0 0 []:=⟨rfl,[],Ow.nil _ _ _ _,fun k h L h1=>by simp at h1⟩
theorem fg.below (H:fg w base A N c Ls)(hb:Below w.heap.size w w'):fg w' base A N c Ls:=by
 obtain⟨a,hs,ho,hk⟩:=H;exact⟨a,hs,ho.below hb aV,fun k h L q1 q2=>(hk k h L q1 q2).below hb aV⟩
theorem fg.rd (H:fg w base A N c Ls):gy w A N Ls:=by
 obtain⟨a,hs,ho,hk⟩:=H;exact⟨a,hs,ho.rd,fun k h L q1 q2=>⟨(hk k h L q1 q2).rd.ri,by have:=(hk k h L q1 q2).cap;omega⟩⟩
theorem fg.lower {b:Nat}(H:fg w base A N c Ls)(hb:b<=base):fg w b A N c Ls:=by
 obtain⟨a,hs,ho,hk⟩:=H;exact⟨a,hs,ho.rebase hb,fun k h L q1 q2=>(hk k h L q1 q2).rebase hb⟩
theorem fg.step {b0:Nat}(H:fg w b0 A N c Ls)(hd:br w base q D)(k:Step M base q w w')(h1:22 ∉ 4 :: M)(h2:3 ∉ 4 :: M):fg w' b0 A N c Ls:=by
 obtain⟨a,hs,ho,hk⟩:=H;exact⟨a,hs,hd.ow ho k.tch h1,fun k' h L q1 q2=>hd.ow (hk k' h L q1 q2) k.tch h2⟩
theorem Ow.other {enc:α->Value}{B C:Option Addr}{b1 b2 m d:Nat}{l:List α}{L:List Int}(H:Ow iv w b1 3 C n c L)(ho:Ow enc w b2 e B m d l)(he:e≠3)(hg:w.grownBy w' (B.map (·.block))):Ow iv w' b1 3 C n c L:=by
 cases B with
 | none=>exact H.below ((Below.refl _ _).grown hg aV (fun k hk=>by cases hk)) aV
 | some a=>
   refine H.kp (Keep.one hg) (fun g hg' e9=>?_);obtain⟨cs,q⟩:=H.blk hg';exact ho.ne_ q he (by rw[e9];rfl)
theorem fg.app (H:fg w base A N c Ls){h:SlV}{L:List Int}(hL:Ow iv w base 3 h.a h.n h.c L):∃ hs:List SlV,Ow slV w base 22 A N c hs /\
 ∀ A' c' w',Ow slV w' base 22 A' (N+1) c' (hs ++ [h])->w.grownBy w' (A.map (·.block))->fg w' base A' (N+1) c' (Ls ++ [L]):=by
 obtain⟨a1,hs,ho,hi⟩:=H;refine⟨hs,ho,fun A' c' w' ho' hg=>?_⟩;have hhs:=ho.1;refine⟨by simp[a1],hs ++ [h],ho',fun k y Y q1 q2=>?_⟩;rcases aw k N with hk | hk
 · rw[aQ aS] at q1 q2;exact (hi k y Y q1 q2).other ho aU hg
 · have hk9:k=N:=by
    have:=(List.getElem?_eq_some_iff.1 q1).1;rw[az,hhs,aJ] at this;omega
   subst hk9;rw[aL aS,hhs,Nat.sub_self] at q1;rw[aL aS,a1,Nat.sub_self] at q2;simp only[List.getElem?_cons_zero,Option.some.injEq] at q1 q2;subst q1 q2;exact hL.other ho aU hg
theorem pS (w:World)(h:SlV):Rd slV (w.alloc (.cells #[.slice h.a h.n h.c] 22)) (some ⟨w.heap.size,0,none⟩) 1 [h]:=Rd.of_block (l:=[h]) (Blk.top _ rfl rfl) rfl
theorem gy.at_ (h:gy w A N Ls){k:Nat}(hk:k<N):∃ b o B n d L,A=some ⟨b,o,none⟩/\b<w.heap.size/\w.cell? ⟨b,o+k,none⟩=some (.slice B n d)/\Ls[k]?=some L/\RI w B n L/\n<=maxLen:=by
 obtain⟨hl,hs,hr,hq⟩:=h;obtain⟨b,o,hB,hb,hc⟩:=hr.2.at_ hk;have h1:k<hs.length:=by rw[hr.1];exact hk
 have h2:k<Ls.length:=aS;obtain⟨e1,e2⟩:=hq k hs[k] Ls[k] (ap h1) (ap h2);refine⟨b,o,hs[k].a,hs[k].n,hs[k].c,Ls[k],hB,hb,?_,ap h2,e1,e2⟩;rw[hc,gX hs k h1]
 rfl
end
section
variable {M:List TypeId} {w w':World} {base g m cc many k tick:Nat} {q:bJ} {p:PV} {pace rep ran:Int} {calm:Bool} {rows all:List (List Int)} {x:PA}
theorem kF (w:World)(h:SlV):Below w.heap.size w (w.alloc (.cells #[.slice h.a h.n h.c] 22)):=(Below.refl _ _).alloc aV _
theorem StOn.disk (h:StOn w base q g p m cc pace many calm rows tick rep):∃ D,br w base q D:=by
 obtain⟨D,E,e,hd,_⟩:=h.ex;exact⟨D,hd⟩
theorem StOn.stepM {D':aY}(h:StOn w base q g p m cc pace many calm rows tick rep)(t:Step M base q w w')(hD:∀ D,br w base q D->br w' base q D)(hM:∀ x ∈ engT,x ∉ 4 :: M)(hE:180 ∉ 4 :: M):StOn w' base q g p m cc pace many calm rows tick rep:=by
 obtain⟨D,E,e,hd,hi,h2⟩:=h.ex;exact⟨aj h.hs t.size,D,E,e,hD D hd,⟨hd.blk hi.b t.tch hE,hi.gb,hi.r.step hd t hM⟩,h2⟩
theorem StOn.app {A:Option Addr}{hs:List SlV}(h:StOn w base q g p m cc pace many calm rows tick rep)(ho:Ow slV w lim 22 A n c hs)(hg:w.grownBy w' (A.map (·.block)))(hl:base<=lim):StOn w' base q g p m cc pace many calm rows tick rep/\Step [22] base q w w':=by
 have s:=Step.of_app (p:=q) (ho.rebase hl) hg h.hs;exact⟨h.stepM (D':=newV 1 1) s (fun D hd=>hd.grown ho hg aU) aU aU,s⟩
theorem Step.new_app {enc:α->Value}{A:Option Addr}{l:List α}{w5 w6:World}(h:Step M base q w w5)(ho:Ow enc w5 lim e A n c l)(hl:w.heap.size<=lim)(hb:base<=w.heap.size)(hg:w5.grownBy w6 (A.map (·.block))):Step M base q w w6:=by
 have s:=Step.of_app (base:=base) (p:=q) (ho.rebase (aj hb hl)) hg (aj hb h.size);obtain⟨F,hF,tF⟩:=h.tch;refine⟨h.bel.trans s.bel,fun g=>F g\/A.map (·.block)=some g,(hF.mono (fun g _ e=>.inl e)).trans (Keep.of_grown (F:=fun g=>A.map (·.block)=some g) hg (fun g e=>e)) (fun g _ e=>.inr e),fun g t cs e hbk=>?_⟩;rcases e with e | e
 · exact tF g t cs e hbk
 · have h1:=(ho.lt g e).1;have h2:=hbk.lt;omega
theorem outputs_any (V:Env p m pace many)(h:StOn w base q g p m cc pace many calm rows tick rep) :
 Ca 34 #[.pointer (some ⟨g,0,none⟩)] w fun e w'=>∃ A c,e=.returned (.tuple #[.slice A tick c,.bool true])/\fg w' w.heap.size A tick c (cM p rows tick)/\StOn w' base q g p m cc pace many calm rows tick rep/\Step mutE base q w w':=by
 have HS:=aT (fun t=>nQ p rows t);have ho0:cM p rows 0=[]:=rfl;have cT:=aT (show ∀ (t:Nat),t<tick->∀ W,StOn W base q g p m cc pace many calm rows tick rep->Ca 98 #[.pointer (some ⟨g,0,none⟩),I (t:Nat)] W fun e' w'=>∃ B k d,e'=.returned (.tuple #[.slice B k d,I 0])/\Ow iv w' W.heap.size 3 B k d (dM p rows t)/\StOn w' base q g p m cc pace many calm rows tick rep/\Step mutE base q W w' from fun t ht W h=>t_output V h t ht);generalize cM p rows=OV at *;generalize dM p rows=GV at *;obtain⟨hle,hlm,_,_,_⟩:=h.le;have hm2:=V.g.m2;have H:=aT h;have hs:=h.hs;have cA:=(t_stat h).mono (fun e' w' (hp:∃ pa sv,e'=.returned (.agg #[I (rows.length:Nat),I (tick:Nat),I (tick:Nat),I pa,I rep,I sv])/\0<=pa/\pa<pace/\pa<=tick/\0<=sv/\sv<=tick/\Below w.heap.size w w')=>(show ∃ pa sv,e'=.returned (.agg #[I (rows.length:Nat),I (tick:Nat),I (tick:Nat),I pa,I rep,I sv])/\Below w.heap.size w w' from by obtain⟨pa,sv,a,_,_,_,_,_,b⟩:=hp;exact⟨pa,sv,a,b⟩));have hfd:=fun pa sv W=>statf1 (rows.length:Nat) (tick:Nat) (tick:Nat) pa rep sv W
 clear h;go_enter Tryz.func34,Tryz.ntmps34;go_wp2_with (first | ((go_at_call 29;(with_reducible refine (cA).mono ?_);rintro e w2 ⟨pa,sv,rfl,b2⟩);have H2:=aT (H.out.below b2);have T2:=aT (Step.of_below (M:=mutE) (p:=q) b2 hs);have B2:=aT b2;clear b2) | fail);clear cA hfd;go_loopw [4,11] (fun v i wr=>∃ (k:Nat) (A:Option Addr) (c:Nat),k<=tick/\i=I (k:Nat)/\v=.slice A k c/\Hid (fg wr w.heap.size A k c (OV k))/\Hid (StOn wr base q g p m cc pace many calm rows tick rep)/\Hid (Step mutE base q w wr)) (fun _ i _=>tick - (intOf i).toNat)
 case atStart=>exact⟨0,none,0,aS,rfl,rfl,(by first | exact fg.nil _ _ | (rw[ho0];exact fg.nil _ _)),H2.out,T2.out⟩
 case round=>
  clear H2 T2 B2 H;obtain⟨k,A,c,hk,rfl,rfl,hR,hO,hT⟩:=hrel;have hws:=hT.out.size;have hbs:=hO.out.hs
  by_cases hlt:k<tick
  · skip
    have ct:=cT.out k hlt wr hO.out;obtain⟨D9,hd9⟩:=hO.out.disk;have HS9:=aT (HS.out k);clear cT HS;go_upto_region 8 with (first | ((go_at_call 98;(with_reducible refine (ct).mono ?_);rintro e w5 ⟨B5,k5,d5,rfl,o5,O5',s5⟩);have O5:=aT O5';have R5:=aT (hR.out.step hd9 s5 aU aU);have T5:=aT (hT.out.trans s5);have N5:=aT (o5.rebase (base':=w.heap.size) hws);clear o5 O5' s5) | fail);have sz5:=T5.out.size;obtain⟨hhs,how,happ⟩:=(R5.out.below (kF w5 ⟨B5,k5,d5⟩)).app (h:=⟨B5,k5,d5⟩) (N5.out.below (kF w5 ⟨B5,k5,d5⟩) aV);have HOW:=aT how;have HAP:=aT happ;clear how happ;go_wp2_with (first | (at_builtin;refine dF rfl rfl ox slV_one (s:=.tmp 22) (N:=k+1) (L:=hhs ++ [⟨B5,k5,d5⟩]) rfl HOW.out rfl (k:=[⟨B5,k5,d5⟩]) (pS w5 ⟨B5,k5,d5⟩) rfl rfl bO aS (aj sz5 (kF w5 ⟨B5,k5,d5⟩).size) ?_;intro A6 c6 w6 hown6 hg6 hat6 hb6) | fail);have R6:=aT (HAP.out A6 c6 w6 hown6 hg6);have hz6:=(kF w5 ⟨B5,k5,d5⟩).size;obtain⟨O6',s6⟩:=(O5.out.below (kF w5 ⟨B5,k5,d5⟩)).app HOW.out hg6 (by have:=hO.out.hs;omega);have O6:=aT O6';have T6:=aT ((T5.out.trans (Step.of_below (M:=mutE) (p:=q) (kF w5 ⟨B5,k5,d5⟩) O5.out.hs)).new_app HOW.out aV hs hg6);clear O6' s6;go_roundw
    case rel=>first
     | exact⟨k+1,A6,c6,aS,by go_num,rfl,(by have:=R6.out;rw[HS9.out] at this;exact this),O6.out,T6.out⟩
     | ((repeat apply Exists.intro);exact⟨⟨k+1,A6,c6,aS,by go_num,rfl,(by have:=R6.out;rw[HS9.out] at this;exact this),O6.out,T6.out⟩,rfl⟩)
    case measure=>simp[intOf];omega
  · have hk9:k=tick:=aS;subst hk9;go_wp2_with fail;go_returns;exact⟨A,c,rfl,hR.out,hO.out,hT.out⟩
end
theorem bit_not {U i:Nat}(hU:U<18446744073709551616)(hi:i<64):bit (18446744073709551615 - U) i=1 - bit U i:=by
 have h:=Nat.testBit_two_pow_sub_succ (n:=64) (x:=U) hU i;rw[Nat.testBit_eq_decide_div_mod_eq,Nat.testBit_eq_decide_div_mod_eq,am hi,Bool.true_and,show (2:Nat) ^ 64 - (U+1)=18446744073709551615 - U by omega] at h;unfold bit
 by_cases q:U / 2 ^ i % 2=1
 · rw[am q] at h;have:=of_decide_eq_false h;omega
 · rw[ah q] at h;have:=of_decide_eq_true h;omega
theorem neg_sum {a:Int}(ha:In64 a):wrap64 (sg (18446744073709551615 - un a)+1)=wrap64 (-a):=by
 unfold sg un wrap64;unfold In64 at ha;split <;> omega
theorem lC (a:Int)(w:World)(ha:In64 a) :
 Ca 297 #[I a] w fun e w'=>e=.returned (I (wrap64 (-a)))/\Below w.heap.size w w':=by
 have hba:=fun w=>kQ a w ha.1 ha.2
 have hU:=un_lt a;have hnum:=fun A c w h=>oT A c (18446744073709551615 - un a) w aS h
 have hadd:=fun w=>jz (sg (18446744073709551615 - un a)) 1 w (by unfold sg;split <;> omega) aS
 rw[neg_sum ha] at hadd;have htab:Hid (tab 64 (fun i=>1 - bit (un a) i)=tab 64 (bit (18446744073709551615 - un a))):=ki fun i hi=>(bit_not hU hi).symm
 generalize wrap64 (-a)=R at *;generalize sg (18446744073709551615 - un a)=N1 at *;generalize 18446744073709551615 - un a=S at *;generalize un a=U at *;clear ha hU;go_enter Tryz.func297,Tryz.ntmps297;go_wp2_with ((go_at_call 183;go_call (hba _) as e w1 ⟨A1,c1,rfl,own1,hb1⟩);replace hb1:=bB (a:=w) (B:=w.heap.size) be hb1 aZ;have hb1s:=hb1.size);have hb1s:=hb1.size;obtain⟨g1,rfl,_,hg1⟩:=own1.addr aS;have hc1:∀ k,k<64->Hid (w1.cell? ⟨g1,k,none⟩=some (I (bit U k:Nat))):=fun k hk=>own1.tab_cell hk
 clear own1 hba;go_loopw [4,5] (fun v i wr=>∃ k A c,k<=64/\i=I (k:Nat)/\v=.slice A k c/\Ow iv wr w1.heap.size 3 A k c (tab k (fun i=>1 - bit U i))/\Below w1.heap.size w1 wr) (fun _ i _=>64 - (intOf i).toNat)
 case atStart=>exact⟨0,none,0,aS,rfl,rfl,Ow.nil _ _ _ _,Below.refl _ _⟩
 case round=>
  obtain⟨k,A,c,hk,rfl,rfl,hown,hb⟩:=hrel;have hbs:=hb.size
  by_cases hlt:k<64
  · have d1:=(hb.cell (p:=⟨g1,k,none⟩) hg1).trans (hc1 k hlt).out;have l1:=gA U k;have hsu:=kg k (fun i=>1 - bit U i);rw[show ((1 - bit U k:Nat):Int)=1 - ((bit U k:Nat):Int) by omega] at hsu;replace hsu:=aT hsu;clear hc1 htab hnum;generalize hLK:tab (k+1) (fun i=>1 - bit U i)=L' at *;replace hLK:=aT hLK;generalize tab k (fun i=>1 - bit U i)=L at *;generalize bit U k=u at *;go_wp2_with (at_builtin;refine dF rfl rfl dV eS (s:=.tmp 12) (N:=k+1) (L:=L') rfl (hown.below (b:=wr.heap.size) be aZ) rfl (k:=[1 - (u:Int)]) (Rd.of_block (l:=[1 - (u:Int)]) (dy _ _ bj) rfl) rfl (hsu.out) bO aS aZ ?_;intro A5 c5 w5 hown5 hg5 hat5 hb5);replace hb5:=bB (a:=w1) (B:=w1.heap.size) be hb5 aZ;have hb5s:=hb5.size;go_roundw
    case rel=>exact⟨k+1,A5,c5,aS,by go_num,rfl,by rw[hLK.out];exact hown5,hb5⟩
    case measure=>simp[intOf];omega
  · have hk9:k=64:=aS;subst hk9;rw[htab.out] at hown;go_wp2_with (first | (go_at_call 185;go_call (hnum _ _ _ hown.rd.ri) as e w9 ⟨rfl,rfl⟩) | ((go_at_call 299;go_call (hadd _) as e w10 ⟨rfl,hb10⟩);replace hb10:=bB (a:=w1) (B:=w1.heap.size) be hb10 aZ;have hb10s:=hb10.size) | fail);go_ret;exact⟨rfl,bB hb1 hb10 hb1s⟩
theorem hb_at {w:World}{b o k:Nat}(h:RI w (some ⟨b,o,none⟩) 65 (tab 65 (cd X)))(hk:k<65):w.cell? ⟨b,o+k,none⟩=some (I (cd X k:Nat)):=h.tab_cell hk
theorem refless_any (A B:Option Addr)(c d X Y:Nat)(w:World)(ha:RI w A 65 (tab 65 (cd X)))(hb':RI w B 65 (tab 65 (cd Y)))(hX:X<36893488147419103232)(hY:Y<36893488147419103232) :
 Ca 318 #[.slice A 65 c,.slice B 65 d] w fun e w'=>e=.returned (.bool (decide (X<Y)))/\Below w.heap.size w w':=by
 obtain⟨b0,o0,rfl,hl0⟩:=ha.addr aS;obtain⟨b1,o1,rfl,hl1⟩:=hb'.addr aS;have hc0:∀ k,k<65->Hid (w.cell? ⟨b0,o0+k,none⟩=some (I (cd X k:Nat))):=fun k hk=>hb_at ha hk
 have hc1:∀ k,k<65->Hid (w.cell? ⟨b1,o1+k,none⟩=some (I (cd Y k:Nat))):=fun k hk=>hb_at hb' hk
 have hx0:X / 2 ^ (65 - 0)=0:=Nat.div_eq_of_lt hX;have hy0:Y / 2 ^ (65 - 0)=0:=Nat.div_eq_of_lt hY;have h00:=aT (hx0.trans hy0.symm);clear ha hb' hX hY hx0 hy0;generalize hz:decide (X<Y)=z;have HZ:=aT hz;clear hz;go_enter Tryz.func318,Tryz.ntmps318;go_wp2;go_loopw [5] (fun i wr=>∃ k q,k<=65/\i=I (k:Nat)/\Hid (X / 2 ^ (65 - k)=Y / 2 ^ (65 - k))/\wr=w.drewN q) (fun i _=>65 - (intOf i).toNat)
 case atStart=>exact⟨0,0,aS,rfl,h00,rfl⟩
 case round=>
  obtain⟨k,q,hk,rfl,heq,rfl⟩:=hrel
  by_cases hlt:k<65
  · have d0:=(hc0 k hlt).out;have d1:=(hc1 k hlt).out;have e0:=heq.out;rw[show 65 - k=(64 - k)+1 by omega] at e0;have lx:=nP X k;have ly:=nP Y k
    by_cases hh:cd X k=cd Y k
    · have hne:(((cd X k:Nat):Int) != ((cd Y k:Nat):Int))=false:=by simp[hh]
      have hn:=less_on e0 hh;rw[show 64 - k=65 - (k+1) by omega] at hn;have HN:=aT hn;clear hh hn e0 hc0 hc1;generalize cd X k=u at *;generalize cd Y k=v at *;go_wp2;go_quiet (fail);go_wp2;go_roundw
      case rel=>exact⟨k+1,q+nq,aS,by go_num,HN,rfl⟩
      case measure=>simp[intOf];omega
    · have hne:(((cd X k:Nat):Int) != ((cd Y k:Nat):Int))=true:=by rw[af];omega
      have hr:=less_at e0 hh;have hzz:Hid (z=decide (cd X k<cd Y k)):=by
       show z=_
       rw[<- HZ.out];exact decide_eq_decide.2 hr
      clear hh e0 hr hc0 hc1;generalize cd X k=u at *;generalize cd Y k=v at *;go_wp2;go_quiet (fail);go_wp2;go_quiet (fail);go_wp2;go_ret;exact⟨cV hzz.out.symm,be⟩
  · have hk9:k=65:=aS;subst hk9;have hF:z=false:=by
     rw[<- HZ.out,aD];have:=heq.out;simp only[Nat.sub_self,Nat.pow_zero,Nat.div_one] at this;omega
    go_wp2;go_ret;exact⟨cV hF.symm,be⟩
theorem hb_first (N:Nat)(h:N<18446744073709551616):tab 1 (cd N)=[0]:=by
 have:cd N 0=0:=by unfold cd bit;rw[Nat.div_eq_of_lt h]
 unfold tab;simp[this]
theorem pT (a:Int)(w:World)(ha:In64 a) :
 Ca 317 #[I a] w fun e w'=>∃ A c,e=.returned (.slice A 65 c)/\Ow iv w' w.heap.size 3 A 65 c (tab 65 (cd a.natAbs))/\Below w.heap.size w w':=by
 have hneg:=fun w=>lC a w ha
 have hun:=un_neg ha;have hN:a.natAbs<18446744073709551616:=by unfold In64 at ha;omega
 have h1:=aT (hb_first a.natAbs hN);have hin:In64 (if a<0 then wrap64 (-a) else a):=by
  split
  · exact iA _
  · exact ha
 have hba:=fun w=>kQ _ w hin.1 hin.2
 rw[hun] at hba;clear hun hin hN ha;generalize a.natAbs=N at *;go_enter Tryz.func317,Tryz.ntmps317
 by_cases hs:a<0
 · rw[if_pos hs] at hba;generalize wrap64 (-a)=a' at *;go_wp2_with (first | ((go_at_call 297;go_call (hneg _) as e w0 ⟨rfl,hb0⟩);replace hb0:=bB (a:=w) (B:=w.heap.size) be hb0 aZ;have hb0s:=hb0.size) | ((go_at_call 183;go_call (hba _) as e w1 ⟨A1,c1,rfl,own1,hb1⟩);have hb01:=bB (a:=w) (B:=w.heap.size) (by exact hb0) hb1 aZ) | fail);have hb1s:=hb01.size;obtain⟨g1,rfl,_,hg1⟩:=own1.addr aS;have hc1:∀ k,k<64->Hid (w1.cell? ⟨g1,k,none⟩=some (I (bit N k:Nat))):=fun k hk=>own1.tab_cell hk
   clear own1 hba hneg;go_loopw [4,5] (fun v i wr=>∃ (t:Nat) (A:Option Addr) (c:Nat),t<=64/\i=I (63 - (t:Int))/\v=.slice A (t+1) c/\Ow iv wr w1.heap.size 3 A (t+1) c (tab (t+1) (cd N))/\Below w1.heap.size w1 wr) (fun _ i _=>(intOf i+1).toNat)
   case atStart=>
    refine⟨0,some ⟨w1.heap.size,0,none⟩,1,aS,rfl,rfl,?_,(Below.refl _ _).alloc aV _⟩;rw[h1.out];exact Ow.new w1 3 #[I 0] [0] rfl aU
   case round=>
    obtain⟨t,A,c,ht,rfl,rfl,hown,hb⟩:=hrel;have hbs:=hb.size
    by_cases hlt:t<64
    · have d1:=(hb.cell (p:=⟨g1,63 - t,none⟩) hg1).trans (hc1 (63 - t) aS).out;obtain⟨j,hj⟩:∃ j:Nat,63 - t=j:=⟨_,rfl⟩;have hji:(63:Int) - (t:Int)=(j:Int):=aS;have hsu:=kg (t+1) (cd N);rw[show cd N (t+1)=bit N (63 - t) from by unfold cd;rw[show 64 - (t+1)=63 - t by omega]] at hsu;replace hsu:=aT hsu;rw[hji];rw[hj] at d1 hsu;have hj64:j<64:=aS;have HJ:=aT hj;clear hc1 h1 hj hji;generalize hLK:tab (t+1+1) (cd N)=L' at *;replace hLK:=aT hLK;generalize tab (t+1) (cd N)=L at *;generalize bit N j=u at *;go_wp2_with (at_builtin;refine dF rfl rfl dV eS (s:=.tmp 17) (N:=t+1+1) (L:=L') rfl (hown.below (b:=wr.heap.size) be aZ) rfl (k:=[(u:Int)]) (Rd.of_block (l:=[(u:Int)]) (dy _ _ bj) rfl) rfl (hsu.out) bO aS aZ ?_;intro A5 c5 w5 hown5 hg5 hat5 hb5);replace hb5:=bB (a:=w1) (B:=w1.heap.size) be hb5 aZ;have hb5s:=hb5.size;go_roundw
      case rel=>exact⟨t+1,A5,c5,aS,by have:=HJ.out;go_num,rfl,by rw[hLK.out];exact hown5,hb5⟩
      case measure=>simp[intOf]
    · have hk9:t=64:=aS;subst hk9;go_wp2;go_ret;exact⟨A,c,rfl,hown.rebase hb1s,bB hb01 hb hb1s⟩
 · rw[if_neg hs] at hba;go_wp2_with (first | ((go_at_call 183;go_call (hba _) as e w1 ⟨A1,c1,rfl,own1,hb1⟩);have hb01:=hb1) | fail);have hb1s:=hb01.size;obtain⟨g1,rfl,_,hg1⟩:=own1.addr aS;have hc1:∀ k,k<64->Hid (w1.cell? ⟨g1,k,none⟩=some (I (bit N k:Nat))):=fun k hk=>own1.tab_cell hk
   clear own1 hba hneg;go_loopw [4,5] (fun v i wr=>∃ (t:Nat) (A:Option Addr) (c:Nat),t<=64/\i=I (63 - (t:Int))/\v=.slice A (t+1) c/\Ow iv wr w1.heap.size 3 A (t+1) c (tab (t+1) (cd N))/\Below w1.heap.size w1 wr) (fun _ i _=>(intOf i+1).toNat)
   case atStart=>
    refine⟨0,some ⟨w1.heap.size,0,none⟩,1,aS,rfl,rfl,?_,(Below.refl _ _).alloc aV _⟩;rw[h1.out];exact Ow.new w1 3 #[I 0] [0] rfl aU
   case round=>
    obtain⟨t,A,c,ht,rfl,rfl,hown,hb⟩:=hrel;have hbs:=hb.size
    by_cases hlt:t<64
    · have d1:=(hb.cell (p:=⟨g1,63 - t,none⟩) hg1).trans (hc1 (63 - t) aS).out;obtain⟨j,hj⟩:∃ j:Nat,63 - t=j:=⟨_,rfl⟩;have hji:(63:Int) - (t:Int)=(j:Int):=aS;have hsu:=kg (t+1) (cd N);rw[show cd N (t+1)=bit N (63 - t) from by unfold cd;rw[show 64 - (t+1)=63 - t by omega]] at hsu;replace hsu:=aT hsu;rw[hji];rw[hj] at d1 hsu;have hj64:j<64:=aS;have HJ:=aT hj;clear hc1 h1 hj hji;generalize hLK:tab (t+1+1) (cd N)=L' at *;replace hLK:=aT hLK;generalize tab (t+1) (cd N)=L at *;generalize bit N j=u at *;go_wp2_with (at_builtin;refine dF rfl rfl dV eS (s:=.tmp 17) (N:=t+1+1) (L:=L') rfl (hown.below (b:=wr.heap.size) be aZ) rfl (k:=[(u:Int)]) (Rd.of_block (l:=[(u:Int)]) (dy _ _ bj) rfl) rfl (hsu.out) bO aS aZ ?_;intro A5 c5 w5 hown5 hg5 hat5 hb5);replace hb5:=bB (a:=w1) (B:=w1.heap.size) be hb5 aZ;have hb5s:=hb5.size;go_roundw
      case rel=>exact⟨t+1,A5,c5,aS,by have:=HJ.out;go_num,rfl,by rw[hLK.out];exact hown5,hb5⟩
      case measure=>simp[intOf]
    · have hk9:t=64:=aS;subst hk9;go_wp2;go_ret;exact⟨A,c,rfl,hown.rebase hb1s,bB hb01 hb hb1s⟩
def il (X Y t i:Nat):Nat:=if 64 - i<t then cd (X - Y) i else cd X i
theorem takeF_zero (X Y:Nat):tab 65 (il X Y 0)=tab 65 (cd X):=ki fun i _=>by unfold il;rw[if_neg aS]
theorem takeF_all (X Y:Nat):tab 65 (il X Y 65)=tab 65 (cd (X - Y)):=ki fun i _=>by unfold il;rw[if_pos aS]
theorem takeF_next {Y t i:Nat}(ht:t<65)(hi:i<65):(if i=64 - t then bit (X - Y) t else il X Y t i)=il X Y (t+1) i:=by
 unfold il cd
 by_cases h:i=64 - t
 · rw[if_pos h,if_pos aS,show 64 - i=t by omega]
 · rw[if_neg h]
   by_cases h2:64 - i<t
   · rw[if_pos h2,if_pos aS]
   · rw[if_neg h2,if_neg aS]
theorem bit_sub_int {Y:Nat}(h:Y<=X)(t:Nat):(bit (X - Y) t:Int)=if (bit X t:Int) - (bit Y t:Int) - (borK X Y t:Int)<0 then (bit X t:Int) - (bit Y t:Int) - (borK X Y t:Int)+2 else (bit X t:Int) - (bit Y t:Int) - (borK X Y t:Int):=by
 have e:=bit_sub h t;have hx:=gA X t;have hy:=gA Y t;have hb:=borK_le X Y t
 split <;> omega
theorem reftake_any (A B:Option Addr)(c d X Y:Nat)(w:World)(ha:RI w A 65 (tab 65 (cd X)))(hb':RI w B 65 (tab 65 (cd Y)))(hYX:Y<=X) :
 Ca 319 #[.slice A 65 c,.slice B 65 d] w fun e w'=>∃ A' c',e=.returned (.slice A' 65 c')/\Ow iv w' w.heap.size 3 A' 65 c' (tab 65 (cd (X - Y)))/\Below w.heap.size w w':=by
 obtain⟨b0,o0,rfl,hl0⟩:=ha.addr aS;obtain⟨b1,o1,rfl,hl1⟩:=hb'.addr aS;have hc0:∀ k,k<65->Hid (w.cell? ⟨b0,o0+k,none⟩=some (I (cd X k:Nat))):=fun k hk=>hb_at ha hk
 have hc1:∀ k,k<65->Hid (w.cell? ⟨b1,o1+k,none⟩=some (I (cd Y k:Nat))):=fun k hk=>hb_at hb' hk
 have HA:=aT ha;have HL:=aT (show ([]:List Int) ++ tab 65 (cd X)=tab 65 (il X Y 0) from (takeF_zero X Y).symm);have HYX:=aT hYX;clear hb' ha hYX;go_enter Tryz.func319,Tryz.ntmps319;go_wp2_with (first | (at_builtin;refine dF rfl rfl dV eS (s:=.tmp 9) (N:=65) (L:=tab 65 (il X Y 0)) rfl (Ow.new w 3 #[] [] rfl aU) rfl (k:=tab 65 (cd X)) (HA.out.below (B:=w.heap.size) ((Below.refl _ _).alloc aV _) aV).rd aS HL.out bO aS aZ ?_;intro A2 c2 w2 hown2 hg2 hat2 hb2;replace hown2:=hown2.rebase (base':=w.heap.size) aZ;replace hb2:=bB (a:=w) (B:=w.heap.size) be hb2 aZ;have hb2s:=hb2.size) | fail);have hb2s:=hb2.size;obtain⟨g,rfl,hgb,hgl⟩:=hown2.addr aS;clear HA HL hat2 hg2;go_loopw [6,7,8] (fun bo i _ wr=>∃ t:Nat,t<=65/\i=I (64 - (t:Int))/\bo=I (borK X Y t:Nat)/\Ow iv wr w.heap.size 3 (some ⟨g,0,none⟩) 65 c2 (tab 65 (il X Y t))/\Below w.heap.size w wr) (fun _ i _ _=>(intOf i+1).toNat)
 case atStart=>exact⟨0,aS,rfl,by simp[borK,Nat.mod_one],hown2,hb2⟩
 case round=>
  obtain⟨t,ht,rfl,rfl,hown,hb⟩:=hrel;have hbs:=hb.size
  by_cases hlt:t<65
  · have d0:=(hb.cell (p:=⟨b0,o0+(64 - t),none⟩) hl0).trans (hc0 (64 - t) aS).out;have d1:=(hb.cell (p:=⟨b1,o1+(64 - t),none⟩) hl1).trans (hc1 (64 - t) aS).out;rw[show cd X (64 - t)=bit X t from by unfold cd;rw[show 64 - (64 - t)=t by omega]] at d0;rw[show cd Y (64 - t)=bit Y t from by unfold cd;rw[show 64 - (64 - t)=t by omega]] at d1;have hbi:=bit_sub_int HYX.out t;have hbn:=borK_next X Y t;have lx:=gA X t;have ly:=gA Y t;have lb:=borK_le X Y t;have hset:=fun u (hu:u=I (bit (X - Y) t:Nat))=>aT (hown.tab_set (f':=il X Y (t+1)) (64 - t) (bit (X - Y) t) u aS hu (fun i hi=>takeF_next hlt hi))
    have hfree:=hown.free (64 - t);have hcell:=hown.tab_cell (k:=64 - t) aS;obtain⟨j,hj⟩:∃ j:Nat,64 - t=j:=⟨_,rfl⟩;have hji:(64:Int) - (t:Int)=(j:Int):=aS;rw[hji];rw[hj] at d0 d1 hset hfree hcell;have hj65:j<65:=aS;have HJ:=aT hj;clear hj hji hc0 hc1;generalize il X Y t j=old at *;generalize bit (X - Y) t=r at *;generalize bit X t=u at *;generalize bit Y t=v at *;generalize borK X Y t=bo at *;have HO:=aT hown;clear hown
    by_cases hn:(u:Int) - (v:Int) - (bo:Int)<0
    · rw[if_pos hn] at hbi hbn;have hrr:Hid ((u:Int) - (v:Int) - (bo:Int)+2=(r:Int)):=hbi.symm;have HBN:=aT hbn;clear hbi hbn;go_wp2;go_quiet (fail);go_wp2;go_roundw
      case rel=>exact⟨t+1,aS,by have:=HJ.out;go_num,by rw[HBN.out];rfl,(hset _ (by rw[hrr.out])).out,be⟩
      case measure=>simp[intOf]
    · rw[if_neg hn] at hbi hbn;have hrr:Hid ((u:Int) - (v:Int) - (bo:Int)=(r:Int)):=hbi.symm;have HBN:=aT hbn;clear hbi hbn;go_wp2;go_quiet (fail);go_wp2;go_roundw
      case rel=>exact⟨t+1,aS,by have:=HJ.out;go_num,by rw[HBN.out];rfl,(hset _ (by rw[hrr.out])).out,be⟩
      case measure=>simp[intOf]
  · have hk9:t=65:=aS;subst hk9;rw[takeF_all] at hown;go_wp2;go_ret;exact⟨some ⟨g,0,none⟩,c2,rfl,hown,hb⟩
