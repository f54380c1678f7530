/- Parts. -/
import Derived.Test.YtmeebofhlilcmaaGreatPr15
import Derived.ArgAppend
set_option linter.unusedVariables false
set_option linter.unusedSimpArgs false
set_option maxRecDepth 100000
set_option maxHeartbeats 0
namespace Go.Proofs.YtmeebofhlilcmaaGreat
variable {X bytes off gx:Nat}
open Go.RowKit
theorem bit_not {U i:Nat}(hU:U<18446744073709551616)(hi:i<64):bit (18446744073709551615 - U) i=1 - bit U i:=by
 have h:=Nat.testBit_two_pow_sub_succ (n:=64) (x:=U) hU i;rw[Nat.testBit_eq_decide_div_mod_eq,Nat.testBit_eq_decide_div_mod_eq,am hi,Bool.true_and,show (2:Nat) ^ 64 - (U+1)=18446744073709551615 - U by omega] at h;unfold bit
 by_cases q:U / 2 ^ i % 2=1
 · rw[am q] at h;have:=of_decide_eq_false h;omega
 · rw[aj q] at h;have:=of_decide_eq_true h;omega
theorem neg_sum {a:Int}(ha:In64 a):wrap64 (sg (18446744073709551615 - un a)+1)=wrap64 (-a):=by
 unfold sg un wrap64;unfold In64 at ha;split <;> omega
theorem mh (a:Int)(w:World)(ha:In64 a) :
 Ca 297 #[I a] w fun e w'=>e=.returned (I (wrap64 (-a)))/\Below w.heap.size w w':=by
 have hba:=fun w=>lL a w ha.1 ha.2
 have hU:=un_lt a;have hnum:=fun A c w h=>pI A c (18446744073709551615 - un a) w aS h
 have hadd:=fun w=>jW (sg (18446744073709551615 - un a)) 1 w (by unfold sg;split <;> omega) aS
 rw[neg_sum ha] at hadd;have htab:Hid (tab 64 (fun i=>1 - bit (un a) i)=tab 64 (bit (18446744073709551615 - un a))):=kW fun i hi=>(bit_not hU hi).symm
 generalize wrap64 (-a)=R at *;generalize sg (18446744073709551615 - un a)=N1 at *;generalize 18446744073709551615 - un a=S at *;generalize un a=U at *;clear ha hU;go_enter Tryz.func297,Tryz.ntmps297;go_wp2_with ((go_at_call 183;go_call (hba _) as e w1 ⟨A1,c1,rfl,own1,hb1⟩);replace hb1:=bH (a:=w) (B:=w.heap.size) bc hb1 be;have hb1s:=hb1.size);have hb1s:=hb1.size;obtain⟨g1,rfl,_,hg1⟩:=own1.addr aS;have hc1:∀ k,k<64->Hid (w1.cell? ⟨g1,k,none⟩=some (I (bit U k:Nat))):=fun k hk=>own1.tab_cell hk
 clear own1 hba;go_loopw [4,5] (fun v i wr=>∃ k A c,k<=64/\i=I (k:Nat)/\v=.slice A k c/\Ow iv wr w1.heap.size 3 A k c (tab k (fun i=>1 - bit U i))/\Below w1.heap.size w1 wr) (fun _ i _=>64 - (intOf i).toNat)
 case atStart=>exact⟨0,none,0,aS,rfl,rfl,Ow.nil _ _ _ _,Below.refl _ _⟩
 case round=>
  obtain⟨k,A,c,hk,rfl,rfl,hown,hb⟩:=hrel;have hbs:=hb.size
  by_cases hlt:k<64
  · have d1:=(hb.cell (p:=⟨g1,k,none⟩) hg1).trans (hc1 k hlt).out;have l1:=gR U k;have hsu:=kV k (fun i=>1 - bit U i);rw[show ((1 - bit U k:Nat):Int)=1 - ((bit U k:Nat):Int) by omega] at hsu;replace hsu:=aT hsu;clear hc1 htab hnum;generalize hLK:tab (k+1) (fun i=>1 - bit U i)=L' at *;replace hLK:=aT hLK;generalize tab k (fun i=>1 - bit U i)=L at *;generalize bit U k=u at *;go_wp2_with (at_builtin;refine dw rfl rfl dS eS (s:=.tmp 12) (N:=k+1) (L:=L') rfl (hown.below (b:=wr.heap.size) bc be) rfl (k:=[1 - (u:Int)]) (Rd.of_block (l:=[1 - (u:Int)]) (dr _ _ ba) rfl) rfl (hsu.out) bM aS be ?_;intro A5 c5 w5 hown5 hg5 hat5 hb5);replace hb5:=bH (a:=w1) (B:=w1.heap.size) bc hb5 be;have hb5s:=hb5.size;go_roundw
    case rel=>exact⟨k+1,A5,c5,aS,by go_num,rfl,by rw[hLK.out];exact hown5,hb5⟩
    case measure=>simp[intOf];omega
  · have hk9:k=64:=aS;subst hk9;rw[htab.out] at hown;go_wp2_with (first | (go_at_call 185;go_call (hnum _ _ _ hown.rd.ri) as e w9 ⟨rfl,rfl⟩) | ((go_at_call 299;go_call (hadd _) as e w10 ⟨rfl,hb10⟩);replace hb10:=bH (a:=w1) (B:=w1.heap.size) bc hb10 be;have hb10s:=hb10.size) | fail);go_ret;exact⟨rfl,bH hb1 hb10 hb1s⟩
theorem hb_at {w:World}{b o k:Nat}(h:RI w (some ⟨b,o,none⟩) 65 (tab 65 (bZ X)))(hk:k<65):w.cell? ⟨b,o+k,none⟩=some (I (bZ X k:Nat)):=h.tab_cell hk
theorem refless_any (A B:Option Addr)(c d X Y:Nat)(w:World)(ha:RI w A 65 (tab 65 (bZ X)))(hb':RI w B 65 (tab 65 (bZ Y)))(hX:X<36893488147419103232)(hY:Y<36893488147419103232) :
 Ca 318 #[.slice A 65 c,.slice B 65 d] w fun e w'=>e=.returned (.bool (decide (X<Y)))/\Below w.heap.size w w':=by
 obtain⟨b0,o0,rfl,hl0⟩:=ha.addr aS;obtain⟨b1,o1,rfl,hl1⟩:=hb'.addr aS;have hc0:∀ k,k<65->Hid (w.cell? ⟨b0,o0+k,none⟩=some (I (bZ X k:Nat))):=fun k hk=>hb_at ha hk
 have hc1:∀ k,k<65->Hid (w.cell? ⟨b1,o1+k,none⟩=some (I (bZ Y k:Nat))):=fun k hk=>hb_at hb' hk
 have hx0:X / 2 ^ (65 - 0)=0:=Nat.div_eq_of_lt hX;have hy0:Y / 2 ^ (65 - 0)=0:=Nat.div_eq_of_lt hY;have h00:=aT (hx0.trans hy0.symm);clear ha hb' hX hY hx0 hy0;generalize hz:decide (X<Y)=z;have HZ:=aT hz;clear hz;go_enter Tryz.func318,Tryz.ntmps318;go_wp2;go_loopw [5] (fun i wr=>∃ k q,k<=65/\i=I (k:Nat)/\Hid (X / 2 ^ (65 - k)=Y / 2 ^ (65 - k))/\wr=w.drewN q) (fun i _=>65 - (intOf i).toNat)
 case atStart=>exact⟨0,0,aS,rfl,h00,rfl⟩
 case round=>
  obtain⟨k,q,hk,rfl,heq,rfl⟩:=hrel
  by_cases hlt:k<65
  · have d0:=(hc0 k hlt).out;have d1:=(hc1 k hlt).out;have e0:=heq.out;rw[show 65 - k=(64 - k)+1 by omega] at e0;have lx:=oI X k;have ly:=oI Y k
    by_cases hh:bZ X k=bZ Y k
    · have hne:(((bZ X k:Nat):Int) != ((bZ Y k:Nat):Int))=false:=by simp[hh]
      have hn:=less_on e0 hh;rw[show 64 - k=65 - (k+1) by omega] at hn;have HN:=aT hn;clear hh hn e0 hc0 hc1;generalize bZ X k=u at *;generalize bZ Y k=v at *;go_wp2;go_quiet (fail);go_wp2;go_roundw
      case rel=>exact⟨k+1,q+nq,aS,by go_num,HN,rfl⟩
      case measure=>simp[intOf];omega
    · have hne:(((bZ X k:Nat):Int) != ((bZ Y k:Nat):Int))=true:=by rw[af];omega
      have hr:=less_at e0 hh;have hzz:Hid (z=decide (bZ X k<bZ Y k)):=by
       show z=_
       rw[<- HZ.out];exact decide_eq_decide.2 hr
      clear hh e0 hr hc0 hc1;generalize bZ X k=u at *;generalize bZ Y k=v at *;go_wp2;go_quiet (fail);go_wp2;go_quiet (fail);go_wp2;go_ret;exact⟨cO hzz.out.symm,bc⟩
  · have hk9:k=65:=aS;subst hk9;have hF:z=false:=by
     rw[<- HZ.out,aD];have:=heq.out;simp only[Nat.sub_self,Nat.pow_zero,Nat.div_one] at this;omega
    go_wp2;go_ret;exact⟨cO hF.symm,bc⟩
theorem hb_first (N:Nat)(h:N<18446744073709551616):tab 1 (bZ N)=[0]:=by
 have:bZ N 0=0:=by unfold bZ bit;rw[Nat.div_eq_of_lt h]
 unfold tab;simp[this]
theorem qC (a:Int)(w:World)(ha:In64 a) :
 Ca 317 #[I a] w fun e w'=>∃ A c,e=.returned (.slice A 65 c)/\Ow iv w' w.heap.size 3 A 65 c (tab 65 (bZ a.natAbs))/\Below w.heap.size w w':=by
 have hneg:=fun w=>mh a w ha
 have hun:=un_neg ha;have hN:a.natAbs<18446744073709551616:=by unfold In64 at ha;omega
 have h1:=aT (hb_first a.natAbs hN);have hin:In64 (if a<0 then wrap64 (-a) else a):=by
  split
  · exact iU _
  · exact ha
 have hba:=fun w=>lL _ w hin.1 hin.2
 rw[hun] at hba;clear hun hin hN ha;generalize a.natAbs=N at *;go_enter Tryz.func317,Tryz.ntmps317
 by_cases hs:a<0
 · rw[if_pos hs] at hba;generalize wrap64 (-a)=a' at *;go_wp2_with (first | ((go_at_call 297;go_call (hneg _) as e w0 ⟨rfl,hb0⟩);replace hb0:=bH (a:=w) (B:=w.heap.size) bc hb0 be;have hb0s:=hb0.size) | ((go_at_call 183;go_call (hba _) as e w1 ⟨A1,c1,rfl,own1,hb1⟩);have hb01:=bH (a:=w) (B:=w.heap.size) (by exact hb0) hb1 be) | fail);have hb1s:=hb01.size;obtain⟨g1,rfl,_,hg1⟩:=own1.addr aS;have hc1:∀ k,k<64->Hid (w1.cell? ⟨g1,k,none⟩=some (I (bit N k:Nat))):=fun k hk=>own1.tab_cell hk
   clear own1 hba hneg;go_loopw [4,5] (fun v i wr=>∃ (t:Nat) (A:Option Addr) (c:Nat),t<=64/\i=I (63 - (t:Int))/\v=.slice A (t+1) c/\Ow iv wr w1.heap.size 3 A (t+1) c (tab (t+1) (bZ N))/\Below w1.heap.size w1 wr) (fun _ i _=>(intOf i+1).toNat)
   case atStart=>
    refine⟨0,some ⟨w1.heap.size,0,none⟩,1,aS,rfl,rfl,?_,(Below.refl _ _).alloc aW _⟩;rw[h1.out];exact Ow.new w1 3 #[I 0] [0] rfl aV
   case round=>
    obtain⟨t,A,c,ht,rfl,rfl,hown,hb⟩:=hrel;have hbs:=hb.size
    by_cases hlt:t<64
    · have d1:=(hb.cell (p:=⟨g1,63 - t,none⟩) hg1).trans (hc1 (63 - t) aS).out;obtain⟨j,hj⟩:∃ j:Nat,63 - t=j:=⟨_,rfl⟩;have hji:(63:Int) - (t:Int)=(j:Int):=aS;have hsu:=kV (t+1) (bZ N);rw[show bZ N (t+1)=bit N (63 - t) from by unfold bZ;rw[show 64 - (t+1)=63 - t by omega]] at hsu;replace hsu:=aT hsu;rw[hji];rw[hj] at d1 hsu;have hj64:j<64:=aS;have HJ:=aT hj;clear hc1 h1 hj hji;generalize hLK:tab (t+1+1) (bZ N)=L' at *;replace hLK:=aT hLK;generalize tab (t+1) (bZ N)=L at *;generalize bit N j=u at *;go_wp2_with (at_builtin;refine dw rfl rfl dS eS (s:=.tmp 17) (N:=t+1+1) (L:=L') rfl (hown.below (b:=wr.heap.size) bc be) rfl (k:=[(u:Int)]) (Rd.of_block (l:=[(u:Int)]) (dr _ _ ba) rfl) rfl (hsu.out) bM aS be ?_;intro A5 c5 w5 hown5 hg5 hat5 hb5);replace hb5:=bH (a:=w1) (B:=w1.heap.size) bc hb5 be;have hb5s:=hb5.size;go_roundw
      case rel=>exact⟨t+1,A5,c5,aS,by have:=HJ.out;go_num,rfl,by rw[hLK.out];exact hown5,hb5⟩
      case measure=>simp[intOf]
    · have hk9:t=64:=aS;subst hk9;go_wp2;go_ret;exact⟨A,c,rfl,hown.rebase hb1s,bH hb01 hb hb1s⟩
 · rw[if_neg hs] at hba;go_wp2_with (first | ((go_at_call 183;go_call (hba _) as e w1 ⟨A1,c1,rfl,own1,hb1⟩);have hb01:=hb1) | fail);have hb1s:=hb01.size;obtain⟨g1,rfl,_,hg1⟩:=own1.addr aS;have hc1:∀ k,k<64->Hid (w1.cell? ⟨g1,k,none⟩=some (I (bit N k:Nat))):=fun k hk=>own1.tab_cell hk
   clear own1 hba hneg;go_loopw [4,5] (fun v i wr=>∃ (t:Nat) (A:Option Addr) (c:Nat),t<=64/\i=I (63 - (t:Int))/\v=.slice A (t+1) c/\Ow iv wr w1.heap.size 3 A (t+1) c (tab (t+1) (bZ N))/\Below w1.heap.size w1 wr) (fun _ i _=>(intOf i+1).toNat)
   case atStart=>
    refine⟨0,some ⟨w1.heap.size,0,none⟩,1,aS,rfl,rfl,?_,(Below.refl _ _).alloc aW _⟩;rw[h1.out];exact Ow.new w1 3 #[I 0] [0] rfl aV
   case round=>
    obtain⟨t,A,c,ht,rfl,rfl,hown,hb⟩:=hrel;have hbs:=hb.size
    by_cases hlt:t<64
    · have d1:=(hb.cell (p:=⟨g1,63 - t,none⟩) hg1).trans (hc1 (63 - t) aS).out;obtain⟨j,hj⟩:∃ j:Nat,63 - t=j:=⟨_,rfl⟩;have hji:(63:Int) - (t:Int)=(j:Int):=aS;have hsu:=kV (t+1) (bZ N);rw[show bZ N (t+1)=bit N (63 - t) from by unfold bZ;rw[show 64 - (t+1)=63 - t by omega]] at hsu;replace hsu:=aT hsu;rw[hji];rw[hj] at d1 hsu;have hj64:j<64:=aS;have HJ:=aT hj;clear hc1 h1 hj hji;generalize hLK:tab (t+1+1) (bZ N)=L' at *;replace hLK:=aT hLK;generalize tab (t+1) (bZ N)=L at *;generalize bit N j=u at *;go_wp2_with (at_builtin;refine dw rfl rfl dS eS (s:=.tmp 17) (N:=t+1+1) (L:=L') rfl (hown.below (b:=wr.heap.size) bc be) rfl (k:=[(u:Int)]) (Rd.of_block (l:=[(u:Int)]) (dr _ _ ba) rfl) rfl (hsu.out) bM aS be ?_;intro A5 c5 w5 hown5 hg5 hat5 hb5);replace hb5:=bH (a:=w1) (B:=w1.heap.size) bc hb5 be;have hb5s:=hb5.size;go_roundw
      case rel=>exact⟨t+1,A5,c5,aS,by have:=HJ.out;go_num,rfl,by rw[hLK.out];exact hown5,hb5⟩
      case measure=>simp[intOf]
    · have hk9:t=64:=aS;subst hk9;go_wp2;go_ret;exact⟨A,c,rfl,hown.rebase hb1s,bH hb01 hb hb1s⟩
def iK (X Y t i:Nat):Nat:=if 64 - i<t then bZ (X - Y) i else bZ X i
theorem takeF_zero (X Y:Nat):tab 65 (iK X Y 0)=tab 65 (bZ X):=kW fun i _=>by unfold iK;rw[if_neg aS]
theorem takeF_all (X Y:Nat):tab 65 (iK X Y 65)=tab 65 (bZ (X - Y)):=kW fun i _=>by unfold iK;rw[if_pos aS]
theorem takeF_next {Y t i:Nat}(ht:t<65)(hi:i<65):(if i=64 - t then bit (X - Y) t else iK X Y t i)=iK X Y (t+1) i:=by
 unfold iK bZ
 by_cases h:i=64 - t
 · rw[if_pos h,if_pos aS,show 64 - i=t by omega]
 · rw[if_neg h]
   by_cases h2:64 - i<t
   · rw[if_pos h2,if_pos aS]
   · rw[if_neg h2,if_neg aS]
theorem bit_sub_int {Y:Nat}(h:Y<=X)(t:Nat):(bit (X - Y) t:Int)=if (bit X t:Int) - (bit Y t:Int) - (borK X Y t:Int)<0 then (bit X t:Int) - (bit Y t:Int) - (borK X Y t:Int)+2 else (bit X t:Int) - (bit Y t:Int) - (borK X Y t:Int):=by
 have e:=bit_sub h t;have hx:=gR X t;have hy:=gR Y t;have hb:=borK_le X Y t
 split <;> omega
theorem reftake_any (A B:Option Addr)(c d X Y:Nat)(w:World)(ha:RI w A 65 (tab 65 (bZ X)))(hb':RI w B 65 (tab 65 (bZ Y)))(hYX:Y<=X) :
 Ca 319 #[.slice A 65 c,.slice B 65 d] w fun e w'=>∃ A' c',e=.returned (.slice A' 65 c')/\Ow iv w' w.heap.size 3 A' 65 c' (tab 65 (bZ (X - Y)))/\Below w.heap.size w w':=by
 obtain⟨b0,o0,rfl,hl0⟩:=ha.addr aS;obtain⟨b1,o1,rfl,hl1⟩:=hb'.addr aS;have hc0:∀ k,k<65->Hid (w.cell? ⟨b0,o0+k,none⟩=some (I (bZ X k:Nat))):=fun k hk=>hb_at ha hk
 have hc1:∀ k,k<65->Hid (w.cell? ⟨b1,o1+k,none⟩=some (I (bZ Y k:Nat))):=fun k hk=>hb_at hb' hk
 have HA:=aT ha;have HL:=aT (show ([]:List Int) ++ tab 65 (bZ X)=tab 65 (iK X Y 0) from (takeF_zero X Y).symm);have HYX:=aT hYX;clear hb' ha hYX;go_enter Tryz.func319,Tryz.ntmps319;go_wp2_with (first | (at_builtin;refine dw rfl rfl dS eS (s:=.tmp 9) (N:=65) (L:=tab 65 (iK X Y 0)) rfl (Ow.new w 3 #[] [] rfl aV) rfl (k:=tab 65 (bZ X)) (HA.out.below (B:=w.heap.size) ((Below.refl _ _).alloc aW _) aW).rd aS HL.out bM aS be ?_;intro A2 c2 w2 hown2 hg2 hat2 hb2;replace hown2:=hown2.rebase (base':=w.heap.size) be;replace hb2:=bH (a:=w) (B:=w.heap.size) bc hb2 be;have hb2s:=hb2.size) | fail);have hb2s:=hb2.size;obtain⟨g,rfl,hgb,hgl⟩:=hown2.addr aS;clear HA HL hat2 hg2;go_loopw [6,7,8] (fun bo i _ wr=>∃ t:Nat,t<=65/\i=I (64 - (t:Int))/\bo=I (borK X Y t:Nat)/\Ow iv wr w.heap.size 3 (some ⟨g,0,none⟩) 65 c2 (tab 65 (iK X Y t))/\Below w.heap.size w wr) (fun _ i _ _=>(intOf i+1).toNat)
 case atStart=>exact⟨0,aS,rfl,by simp[borK,Nat.mod_one],hown2,hb2⟩
 case round=>
  obtain⟨t,ht,rfl,rfl,hown,hb⟩:=hrel;have hbs:=hb.size
  by_cases hlt:t<65
  · have d0:=(hb.cell (p:=⟨b0,o0+(64 - t),none⟩) hl0).trans (hc0 (64 - t) aS).out;have d1:=(hb.cell (p:=⟨b1,o1+(64 - t),none⟩) hl1).trans (hc1 (64 - t) aS).out;rw[show bZ X (64 - t)=bit X t from by unfold bZ;rw[show 64 - (64 - t)=t by omega]] at d0;rw[show bZ Y (64 - t)=bit Y t from by unfold bZ;rw[show 64 - (64 - t)=t by omega]] at d1;have hbi:=bit_sub_int HYX.out t;have hbn:=borK_next X Y t;have lx:=gR X t;have ly:=gR Y t;have lb:=borK_le X Y t;have hset:=fun u (hu:u=I (bit (X - Y) t:Nat))=>aT (hown.tab_set (f':=iK X Y (t+1)) (64 - t) (bit (X - Y) t) u aS hu (fun i hi=>takeF_next hlt hi))
    have hfree:=hown.free (64 - t);have hcell:=hown.tab_cell (k:=64 - t) aS;obtain⟨j,hj⟩:∃ j:Nat,64 - t=j:=⟨_,rfl⟩;have hji:(64:Int) - (t:Int)=(j:Int):=aS;rw[hji];rw[hj] at d0 d1 hset hfree hcell;have hj65:j<65:=aS;have HJ:=aT hj;clear hj hji hc0 hc1;generalize iK X Y t j=old at *;generalize bit (X - Y) t=r at *;generalize bit X t=u at *;generalize bit Y t=v at *;generalize borK X Y t=bo at *;have HO:=aT hown;clear hown
    by_cases hn:(u:Int) - (v:Int) - (bo:Int)<0
    · rw[if_pos hn] at hbi hbn;have hrr:Hid ((u:Int) - (v:Int) - (bo:Int)+2=(r:Int)):=hbi.symm;have HBN:=aT hbn;clear hbi hbn;go_wp2;go_quiet (fail);go_wp2;go_roundw
      case rel=>exact⟨t+1,aS,by have:=HJ.out;go_num,by rw[HBN.out];rfl,(hset _ (by rw[hrr.out])).out,bc⟩
      case measure=>simp[intOf]
    · rw[if_neg hn] at hbi hbn;have hrr:Hid ((u:Int) - (v:Int) - (bo:Int)=(r:Int)):=hbi.symm;have HBN:=aT hbn;clear hbi hbn;go_wp2;go_quiet (fail);go_wp2;go_roundw
      case rel=>exact⟨t+1,aS,by have:=HJ.out;go_num,by rw[HBN.out];rfl,(hset _ (by rw[hrr.out])).out,bc⟩
      case measure=>simp[intOf]
  · have hk9:t=65:=aS;subst hk9;rw[takeF_all] at hown;go_wp2;go_ret;exact⟨some ⟨g,0,none⟩,c2,rfl,hown,hb⟩
def gW (w:World)(base:Nat)(A:Option Addr)(c:Nat)(l:List Int):Prop :=
 ∃ g off cs,A=some ⟨g,off,none⟩/\base<=g/\Blk w g 3 cs/\off+c=cs.length/\65<=c/\c<=maxLen/\l.length=65/\∀ i,i<65->cs[off+i]?=some (iv (aZ l i))
section
variable {w w':World} {base c:Nat} {A:Option Addr} {l:List Int}
theorem gW.of_ow (h:Ow iv w base 3 A 65 c l):gW w base A c l:=by
 obtain⟨hc1,hc2⟩:=h.cap;have hl:=h.1;rcases h.2.2 with ⟨_,hn⟩ | ⟨g,cap,cur,hv,hb,hg,hnc,hcm,hsz,ht⟩
 · omega
 · injection hv with hv _ hcap;subst hv hcap;have hcs:cur.toList.length=c:=by rw[Array.length_toList,hsz];omega
   refine⟨g,0,cur.toList,rfl,hb,by unfold Blk;rw[hg],aS,hc1,hc2,hl,fun i hi=>?_⟩;have e:(cur.toList.take (65 * 1))[i]?=(l.map iv)[i]?:=by rw[ht]
   rw[aK,if_pos aS,List.getElem?_map] at e;rw[aB,e];unfold aZ;rw[ah,ap (show i<l.length by omega)];rfl
theorem gW.below (h:gW w base A c l)(hb:Below w.heap.size w w'):gW w' base A c l:=by
 obtain⟨g,off,cs,h1,h2,h3,h4⟩:=h;exact⟨g,off,cs,h1,h2,h3.below hb h3.lt,h4⟩
theorem gW.ri (h:gW w base A c l):RI w A 65 l:=by
 obtain⟨g,off,cs,rfl,h2,h3,h4,h5,h6,h7,h8⟩:=h;exact⟨h7,Row.of_block (cs:=cs.toArray) h3 off fun i hi=>by rw[List.getElem?_toArray];exact h8 i hi⟩
theorem qD {α:Type}(cs:List α)(o:Nat)(v:α)(h:o<cs.length):splice cs o [v]=cs.set o v:=by
 unfold splice;rw[List.set_eq_take_append_cons_drop,if_pos h];simp
theorem run_shift {P:Program}{t ty:TypeId}{z:Value}{g:Nat}{v:Int}(hE:dI P t 3 z 1 bytes)(hT:gW w base (some ⟨g,off,none⟩) c l)(hv:w.cell? ⟨gx,0,none⟩=some (iv v))(hb65:65 * bytes<=140737488355328)(hbase:base<=w.heap.size) :
 ∃ A' c' w',(Builtin.append_ #[t,t] ty #[.slice (some ⟨g,off+1,none⟩) 64 (c - 1),.slice (some ⟨gx,0,none⟩) 1 1]).run P w=.ok (.slice A' 65 c') w'/\gW w' base A' c' (l.drop 1 ++ [v])/\Below base w w':=by
 obtain⟨g',off',cs,h1,h2,h3,h4,h5,h6,h7,h8⟩:=hT;injection h1 with h1;injection h1 with e1 e2 _;subst e1 e2;obtain⟨ht,⟨i,hi,hz,hs,hby⟩,hzs,hs0⟩:=hE;have hn:∀ j u,([iv v]:List Value)[j]?=some u->w.cell? ((⟨gx,0,none⟩:Addr).add j)=some u:=fun j u hj=>by
  cases j with
  | zero=>injection hj with hj;subst hj;exact hv
  | succ j=>simp at hj
 have nx:∀ i,i<65->aZ (l.drop 1 ++ [v]) i=if i=64 then v else aZ l (i+1):=fun i hi=>by
  unfold aZ;rw[ah,ah,List.getElem?_append,aG,h7]
  by_cases q:i=64
  · subst q;rw[if_neg aS,if_pos rfl];rfl
  · rw[if_pos aS,if_neg q,List.getElem?_drop,Nat.add_comm]
 by_cases hr:65<=c - 1
 · have hrun:=run_append_room_cells (P:=P) (w:=w) t ty 3 i ht hi g (off+1) 64 (c - 1) ⟨gx,0,none⟩ 1 1 [iv v] (by rw[hs];rfl) hn (fun u hu=>by rw[List.mem_singleton] at hu;rw[hu];rfl) hr
    (fun j hj=>by
     have:j=0:=by simpa using hj
     subst this;rw[hs,h3.cell,ap aS];rfl)
    (fun j hj=>h3.frozen _)
   rw[hs] at hrun;refine⟨some ⟨g,off+1,none⟩,c - 1,_,hrun,⟨g,off+1,_,rfl,h2,Blk.setCells [iv v] (off+1+64 * 1) w cs h3 cU,?_,hr,aS,by simp[h7],fun j hj=>?_⟩,(Below.refl _ _).grown (nH g _ _ w) hbase (fun g9 e=>by injection e with e;omega)⟩
   · rw[qD _ _ _ aS,List.length_set];omega
   · rw[qD _ _ _ aS,List.getElem?_set,nx j hj]
     by_cases q:j=64
     · subst q;rw[if_pos aS,if_pos aS,if_pos rfl]
     · rw[if_neg aS,if_neg q,show off+1+j=off+(j+1) by omega];exact h8 (j+1) aS
 · obtain⟨v',w',hrun,hown,hg⟩:=run_append_arg_grows (P:=P) (w:=w) t ty 3 i z 1 bytes ht hi hz hs hby hzs aS ⟨g,off+1,none⟩ 64 (c - 1) ((l.drop 1).map iv) (by simp[h7]) (fun j u hj=>by
    rw[List.getElem?_map,List.getElem?_drop] at hj;have hj64:1+j<65:=by
     refine Decidable.byContradiction fun hc=>?_
     rw[aE aS] at hj;cases hj
    have hjl:1+j<l.length:=aS;rw[ap hjl] at hj;have h9:=h8 (1+j) hj64;unfold aZ at h9;rw[ah,ap hjl] at h9;rw[Addr.add_lit,h3.cell,Nat.add_assoc,h9];exact hj) ⟨gx,0,none⟩ 1 1 [iv v] rfl hn aS bM aS
   have hOw:w'.ownsRow w.heap.size 3 1 v' 65 ((l.drop 1 ++ [v]).map iv):=by rw[List.map_append];exact hown
   obtain⟨A',c',e',_,_,_⟩:=kL hOw;subst e';have ow:Ow iv w' w.heap.size 3 A' 65 c' (l.drop 1 ++ [v]):=⟨by simp[h7],hOw⟩;exact⟨A',c',w',hrun,gW.of_ow (ow.rebase hbase),(Below.refl _ _).grown hg hbase (fun g9 e=>by cases e)⟩
theorem step_shift {P:Program}{ops:Array Oper}{o:Oper}{a:Act}{K:Act->World->Prop}{Q:Exit->Act->World->Prop}{E:Prop}{s x:Operand}{t:TypeId}{z:Value}{g:Nat}{v:Int}(hgd:o.guard=none)
 (ho:o.op=.call { callee:=.builtin .append,args:=#[s,x],argTypes:=#[t,t] }) (hE:dI P t 3 z 1 bytes)
 (hs:a.eval s=.slice (some ⟨g,off+1,none⟩) 64 (c - 1)) (hT:gW w base (some ⟨g,off,none⟩) c l) (hx:a.eval x=.slice (some ⟨gx,0,none⟩) 1 1) (hv:w.cell? ⟨gx,0,none⟩=some (iv v)) (hb65:65 * bytes<=140737488355328) (hbase:base<=w.heap.size)
 (h:∀ A' c' w',gW w' base A' c' (l.drop 1 ++ [v])->Below base w w'->K (a.put o.dst (.slice A' 65 c')) w') :
 if Region.wanted o (yielded ops a.tmps)=true then Oper.wp P o a w K Q else E:=by
 have hw:Region.wanted o (yielded ops a.tmps)=true:=by simp[Region.wanted,hgd]
 rw[if_pos hw];obtain⟨A',c',w',hrun,h1,h2⟩:=run_shift (P:=P) (ty:=o.type) hE hT hv hb65 hbase;unfold Oper.wp execOp;simp only[ho,resolve,invoke,builtin,Sem.run_bind,Sem.run_pure,Result.andThen_ok,List.map_toArray,List.map_cons,List.map_nil,hs,hx,hrun];exact h A' c' w' h1 h2
end
theorem hibit_zero:tab 65 (fun _=>0)=tab 65 (bZ 0):=kW fun i _=>by unfold bZ bit;simp
theorem tab_shift {R b:Nat}(hb1:b<=1):(tab 65 (bZ R)).drop 1 ++ [(b:Int)]=tab 65 (bZ (2 * R+b)):=by
 apply List.ext_getElem?;intro i;rw[List.getElem?_append,aG,lH]
 by_cases h:i<64
 · rw[if_pos h,List.getElem?_drop];unfold tab;rw[List.getElem?_map,List.getElem?_map,List.getElem?_range aS,List.getElem?_range aS]
   show some ((bZ R (1+i):Nat):Int)=some ((bZ (2 * R+b) i:Nat):Int)
   rw[qc hb1 aS,if_neg aS,Nat.add_comm]
 · rw[if_neg h]
   by_cases h2:i=64
   · subst h2;unfold tab;rw[List.getElem?_map,List.getElem?_range aS]
     show some (b:Int)=some ((bZ (2 * R+b) 64:Nat):Int)
     rw[qc hb1 aS,if_pos rfl]
   · rw[aE cU,aE (by rw[lH];omega)]
theorem wrap_dbl (Q:Nat):wrap64 (wrap64 (Q:Int)+wrap64 (Q:Int))=wrap64 ((2 * Q:Nat):Int):=by unfold wrap64;omega
theorem wrap_one (Q:Nat):wrap64 (wrap64 ((2 * Q:Nat):Int)+1)=wrap64 ((2 * Q+1:Nat):Int):=by unfold wrap64;omega
theorem refdiv03_zero (a:Int)(w:World):Ca 301 #[I a,I 0] w fun e w'=>e=.returned (I 0)/\Below w.heap.size w w':=by
 go_enter Tryz.func301,Tryz.ntmps301;go_wp2;go_ret;exact⟨rfl,bc⟩
theorem refdiv03_main (a b:Int)(w:World)(ha:In64 a)(hb':In64 b)(h0:b≠0):Ca 301 #[I a,I b] w fun e w'=>e=.returned (I (divK a b))/\Below w.heap.size w w':=by
 have hha:=fun w=>qC a w ha
 have hhb:=fun w=>qC b w hb'
 have hX:a.natAbs<=9223372036854775808:=by unfold In64 at ha;omega
 have hY:b.natAbs<=9223372036854775808:=by unfold In64 at hb';omega
 have hY0:0<b.natAbs:=aS;have hD:=aT (divK_abs ha h0);have hng:=fun w=>mh (wrap64 ((a.natAbs / b.natAbs:Nat):Int)) w (iU _)
 have hb0:(b == 0)=false:=by rw[ae];exact h0
 generalize divK a b=R at *;generalize hXX:a.natAbs=X at *;generalize hYY:b.natAbs=Y at *;clear hXX hYY h0 ha hb';have HX:=aT hX;have HY:=aT hY;have HY0:=aT hY0;clear hX hY hY0;go_enter Tryz.func301,Tryz.ntmps301;go_wp2_with (first | ((go_at_call 317;(with_reducible refine (hha _).mono ?_);rintro e w1 ⟨A1,c1,rfl,own1,hb1⟩);replace hb1:=bH (a:=w) (B:=w.heap.size) bc hb1 be;have hb1s:=hb1.size) | ((go_at_call 317;(with_reducible refine (hhb _).mono ?_);rintro e w2 ⟨A2,c2,rfl,own2,hb2⟩);have own1a:=own1.below hb2 aW;replace hb2:=bH (a:=w) (B:=w.heap.size) bc hb2 be;have hb2s:=hb2.size) | fail);have hb2s:=hb2.size;obtain⟨g1,rfl,_,hg1⟩:=own1a.addr aS;obtain⟨g2,rfl,_,hg2⟩:=own2.addr aS;have hc1:∀ k,k<65->Hid (w2.cell? ⟨g1,k,none⟩=some (I (bZ X k:Nat))):=fun k hk=>own1a.tab_cell hk
 have OY:=aT own2;clear own1 own1a own2 hha hhb;go_loopw [7,8] (fun v i wr=>∃ k A c,k<=65/\i=I (k:Nat)/\v=.slice A k c/\Ow iv wr w2.heap.size 3 A k c (tab k (fun _=>0))/\Below w2.heap.size w2 wr) (fun _ i _=>65 - (intOf i).toNat)
 case atStart=>exact⟨0,none,0,aS,rfl,rfl,Ow.nil _ _ _ _,Below.refl _ _⟩
 case round=>
  obtain⟨k,A,c,hk,rfl,rfl,hown,hb⟩:=hrel;have hbs:=hb.size
  by_cases hlt:k<65
  · have hsu:=kV k (fun _=>0);replace hsu:=aT hsu;generalize hLK:tab (k+1) (fun _=>0)=L' at *;replace hLK:=aT hLK;generalize tab k (fun _=>0)=L at *;go_wp2_with (at_builtin;refine dw rfl rfl dS eS (s:=.tmp 21) (N:=k+1) (L:=L') rfl (hown.below (b:=wr.heap.size) bc be) rfl (k:=[0]) (Rd.of_block (l:=[0]) (dr _ _ ba) rfl) rfl (hsu.out) bM aS be ?_;intro A5 c5 w5 hown5 hg5 hat5 hb5);replace hb5:=bH (a:=w2) (B:=w2.heap.size) bc hb5 be;have hb5s:=hb5.size;go_roundw
    case rel=>exact⟨k+1,A5,c5,aS,by go_num,rfl,by rw[hLK.out];exact hown5,hb5⟩
    case measure=>simp[intOf];omega
  · have hk9:k=65:=aS;subst hk9;rw[hibit_zero] at hown;have T3:=aT (gW.of_ow hown);have B3:=aT hb;clear hown hb hbs;generalize wr=w3 at *;go_wp2_with fail;go_loopw [7,9,10] (fun v q i wr=>∃ (k:Nat) (A:Option Addr) (c:Nat),k<=65/\i=I (k:Nat)/\v=.slice A 65 c/\q=I (wrap64 ((X / 2 ^ (65 - k) / Y:Nat):Int))/\gW wr w2.heap.size A c (tab 65 (bZ (X / 2 ^ (65 - k) % Y)))/\Below w2.heap.size w2 wr) (fun _ _ i _=>65 - (intOf i).toNat)
    case atStart=>
     have e0:X / 2 ^ (65 - 0)=0:=Nat.div_eq_of_lt (by have:=HX.out;omega);refine⟨0,A,c,aS,rfl,rfl,?_,?_,B3.out⟩
     · rw[e0,Nat.zero_div,show wrap64 ((0:Nat):Int)=0 from by unfold wrap64;omega]
     · rw[e0,Nat.zero_mod];exact T3.out
    case round=>
     clear T3 B3;obtain⟨k,A,c,hk,rfl,rfl,rfl,hT,hb⟩:=hrel;have hbs:=hb.size
     by_cases hlt:k<65
     · have d0:=(hc1 k hlt).out;have d1:=(hb.cell (p:=⟨g1,k,none⟩) hg1).trans d0;have hN:=top_next (X:=X) hlt;have hbk:=oI X k;obtain⟨g,off,csT,rfl,hgb,hBl,hoc,hc65,hcm,_,_⟩:=id hT;have hgl:=hBl.lt;have hcut:∀ W,(Instr.slice 22 (.slice (some ⟨g,off,none⟩) 65 c) (some (I 1)) none none).run Tryz.prog W=.ok (.slice (some ⟨g,off+1,none⟩) 64 (c - 1)) W:=fun W=>by
        have:=jZ (P:=Tryz.prog) dS (some ⟨g,off,none⟩) 65 c 1 aS W;rw[if_neg aS,Option.map_some,Addr.add_lit] at this;exact this
       have hQ:=fun w=>jW (wrap64 ((X / 2 ^ (65 - k) / Y:Nat):Int)) (wrap64 ((X / 2 ^ (65 - k) / Y:Nat):Int)) w (iU _) (iU _)
       rw[wrap_dbl] at hQ;have hR:X / 2 ^ (65 - k) % Y<Y:=Nat.mod_lt _ HY0.out;have hYm:=HY.out;obtain⟨l1,l2⟩:=long_next (Q:=X / 2 ^ (65 - k) / Y) (R:=X / 2 ^ (65 - k) % Y) (b:=bZ X k) (N:=X / 2 ^ (65 - k)) HY0.out (by rw[Nat.mul_comm];exact (Nat.div_add_mod _ _).symm) hR hbk;rw[<- hN] at l1 l2;have hsh:=tab_shift (R:=X / 2 ^ (65 - k) % Y) hbk;have hls:=fun (w:World) (A:Option Addr) (c:Nat) h1 h2=>refless_any A (some ⟨g2,0,none⟩) c c2 (2 * (X / 2 ^ (65 - k) % Y)+bZ X k) Y w h1 h2 aS aS
       have htk:=fun (hle:Y<=2 * (X / 2 ^ (65 - k) % Y)+bZ X k) (w:World) (A:Option Addr) (c:Nat) h1 h2=>reftake_any A (some ⟨g2,0,none⟩) c c2 (2 * (X / 2 ^ (65 - k) % Y)+bZ X k) Y w h1 h2 hle
       have hone:=fun w=>jW (wrap64 ((2 * (X / 2 ^ (65 - k) / Y):Nat):Int)) 1 w (iU _) aS
       rw[wrap_one] at hone;have HT:=aT hT;have L1:=aT l1;have L2:=aT l2;have HSH:=aT hsh;clear hT hN hR hYm l1 l2 hsh hc1 hBl hoc hbk;generalize hn1:X / 2 ^ (65 - (k+1)) / Y=Q1 at *;generalize hr1:X / 2 ^ (65 - (k+1)) % Y=R1 at *;generalize X / 2 ^ (65 - k) / Y=Q0 at *;generalize X / 2 ^ (65 - k) % Y=R0 at *;generalize bZ X k=bk at *;have HN1:=aT hn1;have HR1:=aT hr1;clear hn1 hr1;generalize hS:2 * R0+bk=S at *;clear hS;generalize hW0:wrap64 (Q0:Int)=W0 at *;clear hW0;generalize hW2:wrap64 ((2 * Q0:Nat):Int)=W2 at *;have HW2:=aT hW2;clear hW2;go_wp2_with fail;have hvx:(wr.alloc (.cells #[I (bk:Nat)] 3)).drew.cell? ⟨wr.heap.size,0,none⟩=some (iv (bk:Int)):=(Blk.drew (show Blk (wr.alloc (.cells #[I (bk:Nat)] 3)) wr.heap.size 3 [I (bk:Nat)] from Blk.top _ rfl rfl)).cell 0;go_region_held3 (fun w'=>w'.cell? ⟨g1,k,none⟩=some (I (bk:Nat))) (first | go_keep | assumption) (first | (refine step_shift (base:=w2.heap.size) (l:=tab 65 (bZ R0)) (c:=c) rfl rfl dS (s:=.tmp 29) (x:=.tmp 34) (g:=g) (off:=off) (gx:=wr.heap.size) (v:=(bk:Int)) rfl (HT.out.below bc) rfl hvx aS be ?_;intro A5 c5 w5 hT5 hb5;rw[HSH.out] at hT5;have T5:=aT hT5;have b5:=(hb.trans (Below.mono (w':=(wr.alloc (.cells #[I (bk:Nat)] 3)).drew) (Below.drew ((Below.refl wr.heap.size wr).alloc aW _)) hbs)).trans hb5;have y5:=(b5.cell (p:=⟨g1,k,none⟩) hg1).trans d0) | fail);have s5:=b5.size
       by_cases hSY:S<Y
       · obtain⟨q1,q2⟩:=L1.out hSY;rw[am hSY] at hls;have HQ:=aT (HN1.out.trans q1);have HR:=aT (HR1.out.trans q2);clear q1 q2 hSY L1 L2 HT htk hone;go_wp2_with (first | ((go_at_call 299;go_call (hQ _) as e w6 ⟨rfl,hb6⟩);have b6:=b5.trans (hb6.mono s5);have T6:=aT (T5.out.below hb6);have Y6:=OY.out.below b6 aW;have s6:=b6.size) | ((go_at_call 318;go_call (hls _ _ _ T6.out.ri Y6.rd.ri) as e w7 ⟨rfl,hb7⟩);have b7:=b6.trans (hb7.mono s6);have T7:=aT (T6.out.below hb7)) | fail);go_roundw
         case rel=>first
          | exact⟨k+1,A5,c5,aS,by go_num,rfl,(by rw[HQ.out,HW2.out]),(by rw[HR.out];exact T7.out),b7⟩
          | ((repeat apply Exists.intro);exact⟨⟨k+1,A5,c5,aS,by go_num,rfl,(by rw[HQ.out,HW2.out]),(by rw[HR.out];exact T7.out),b7⟩,rfl⟩)
         case measure=>simp[intOf];omega
       · obtain⟨q1,q2⟩:=L2.out aS;have ht:=htk aS;rw[aj hSY] at hls;have HQ:=aT (HN1.out.trans q1);have HR:=aT (HR1.out.trans q2);clear q1 q2 hSY L1 L2 HT htk;go_wp2_with (first | ((go_at_call 299;(with_reducible refine (hQ _).mono ?_);rintro e w6 ⟨rfl,hb6⟩);have b6:=b5.trans (hb6.mono s5);have T6:=aT (T5.out.below hb6);have Y6:=OY.out.below b6 aW;have s6:=b6.size) | ((go_at_call 318;go_call (hls _ _ _ T6.out.ri Y6.rd.ri) as e w7 ⟨rfl,hb7⟩);have b7:=b6.trans (hb7.mono s6);have T7:=aT (T6.out.below hb7);have Y7:=OY.out.below b7 aW;have s7:=b7.size) | ((go_at_call 319;go_call (ht _ _ _ T7.out.ri Y7.rd.ri) as e w8 ⟨A8,c8,rfl,own8,hb8⟩);have b8:=b7.trans (hb8.mono s7);have T8:=aT (gW.of_ow (own8.rebase s7));have s8:=b8.size) | ((go_at_call 299;(with_reducible refine (hone _).mono ?_);rintro e w9 ⟨rfl,hb9⟩);have b9:=b8.trans (hb9.mono s8);have T9:=aT (T8.out.below hb9)) | fail);go_roundw
         case rel=>first
          | exact⟨k+1,A8,c8,aS,by go_num,rfl,(by rw[HQ.out,show ((2 * Q0+1:Nat):Int)=2 * (Q0:Int)+1 by omega]),(by rw[HR.out];exact T9.out),b9⟩
          | ((repeat apply Exists.intro);exact⟨⟨k+1,A8,c8,aS,by go_num,rfl,(by rw[HQ.out,show ((2 * Q0+1:Nat):Int)=2 * (Q0:Int)+1 by omega]),(by rw[HR.out];exact T9.out),b9⟩,rfl⟩)
         case measure=>simp[intOf];omega
     · have hk9:k=65:=aS;subst hk9;have hQe:X / 2 ^ (65 - 65) / Y=X / Y:=by rw[Nat.sub_self,Nat.pow_zero,Nat.div_one]
       have BB:=aT (bH hb2 hb hb2s);rw[hQe];generalize wrap64 ((X / Y:Nat):Int)=V at *;clear hT hQe
       by_cases hs:(decide (a<0) != decide (b<0))=true
       · have hR:=hD.out.trans (if_pos hs);subst hR;clear hD
         by_cases ha0:a<0 <;> by_cases hb0':b<0 <;> simp only[ha0,hb0',decide_true,decide_false,bne_self_eq_false] at hs
         all_goals first
          | (exact absurd hs aV)
          | (go_wp2_with (first | (go_at_call 297;go_call (hng _) as e w9 ⟨rfl,hb9⟩) | fail)
             go_ret;exact⟨rfl,BB.out.trans (hb9.mono BB.out.size)⟩)
       · have hR:=hD.out.trans (if_neg hs);subst hR;clear hD
         by_cases ha0:a<0 <;> by_cases hb0':b<0 <;> simp only[ha0,hb0',decide_true,decide_false,bne_self_eq_false] at hs
         all_goals first
          | (exact absurd rfl hs)
          | (go_wp2_with fail
             go_ret;exact⟨rfl,BB.out⟩)
theorem qE (a b:Int)(w:World)(ha:In64 a)(hb':In64 b):Ca 301 #[I a,I b] w fun e w'=>e=.returned (I (divK a b))/\Below w.heap.size w w':=by
 by_cases h0:b=0
 · subst h0;have:divK a 0=0:=by unfold divK;rw[if_pos rfl]
   rw[this];exact refdiv03_zero a w
 · exact refdiv03_main a b w ha hb' h0
theorem refmod03_any (a b:Int)(w:World)(ha:In64 a)(hb':In64 b):Ca 302 #[I a,I b] w fun e w'=>e=.returned (I (modK a b))/\Below w.heap.size w w':=by
 have hd:=fun w=>qE a b w ha hb'
 have hm:=fun w=>qb (divK a b) b w (mU ha) hb'
 have hn:=fun w=>mh (wrap64 (divK a b * b)) w (iU _)
 have ha':=fun w=>jW a (wrap64 (-(wrap64 (divK a b * b)))) w ha (iU _)
 rw[show wrap64 (a+wrap64 (-(wrap64 (divK a b * b))))=modK a b from by unfold modK;generalize divK a b * b=x;unfold wrap64;omega] at ha';generalize modK a b=R at *;generalize wrap64 (-(wrap64 (divK a b * b)))=x3 at *;generalize wrap64 (divK a b * b)=x2 at *;generalize divK a b=x1 at *;clear ha hb';go_enter Tryz.func302,Tryz.ntmps302;go_wp2_with (first | ((go_at_call 301;go_call (hd _) as e w1 ⟨rfl,hb1⟩);have s1:=hb1.size) | ((go_at_call 300;go_call (hm _) as e w2 ⟨rfl,hb2⟩);have b2:=hb1.trans (hb2.mono s1);have s2:=b2.size) | ((go_at_call 297;go_call (hn _) as e w3 ⟨rfl,hb3⟩);have b3:=b2.trans (hb3.mono s2);have s3:=b3.size) | ((go_at_call 299;go_call (ha' _) as e w4 ⟨rfl,hb4⟩);have b4:=b3.trans (hb4.mono s3)) | fail);go_ret;exact⟨rfl,b4⟩
theorem qF (b:Bool)(w:World):Ca 298 #[.bool b] w fun e w'=>e=.returned (I (dh b))/\w=w':=by
 cases b <;>
 (go_enter Tryz.func298,Tryz.ntmps298
  go_wp2;go_ret;exact⟨rfl,rfl⟩)
theorem refone03_any (op a:Int)(w:World)(ho:op=5\/op=6)(ha:In64 a):Ca 265 #[I op,I a] w fun e w'=>e=.returned (.tuple #[I (oneK op a),.bool true])/\Below w.heap.size w w':=by
 rcases ho with rfl | rfl
 · have hn:=fun w=>mh a w ha
   rw[show oneK 5 a=wrap64 (-a) from rfl];generalize wrap64 (-a)=R at *;go_enter Tryz.func265,Tryz.ntmps265;go_wp2_with (first | (go_at_call 297;go_call (hn _) as e w1 ⟨rfl,hb1⟩) | fail);go_ret2;exact⟨rfl,hb1⟩
 · have hf:=fun w=>qF (a == 0) w
   rw[show oneK 6 a=dh (a == 0) from rfl];generalize dh (a == 0)=R at *;go_enter Tryz.func265,Tryz.ntmps265;go_wp2_with (first | (go_at_call 298;go_call (hf _) as e w1 ⟨rfl,rfl⟩) | fail);go_ret2;exact⟨rfl,Below.refl _ _⟩
