/- Parts: RefDiv. -/
import Derived.Test.YtmeebofhlilcmaaGreatPr21
set_option linter.unusedVariables false
set_option linter.unusedSimpArgs false
set_option maxRecDepth 100000
set_option maxHeartbeats 0
namespace Go.Proofs.YtmeebofhlilcmaaGreat
variable {X:Nat}
open Go.RowKit
theorem bit_not {U i:Nat}(hU:U<18446744073709551616)(hi:i<64):bit (18446744073709551615 - U) i=1 - bit U i:=by
 have h:=Nat.testBit_two_pow_sub_succ (n:=64) (x:=U) hU i;rw[Nat.testBit_eq_decide_div_mod_eq,Nat.testBit_eq_decide_div_mod_eq,am hi,Bool.true_and,show (2:Nat) ^ 64 - (U+1)=18446744073709551615 - U by omega] at h;unfold bit
 by_cases q:U / 2 ^ i % 2=1
 · rw[am q] at h;have:=of_decide_eq_false h;omega
 · rw[aj q] at h;have:=of_decide_eq_true h;omega
theorem neg_sum {a:Int}(ha:In64 a):wrap64 (sg (18446744073709551615 - un a)+1)=wrap64 (-a):=by
 unfold sg un wrap64;unfold In64 at ha;split <;> omega
theorem lc (a:Int)(w:World)(ha:In64 a) :
 Ca 297 #[I a] w fun e w'=>e=.returned (I (wrap64 (-a)))/\Below w.heap.size w w':=by
 have hba:=fun w=>kD a w ha.1 ha.2
 have hU:=un_lt a;have hnum:=fun A c w h=>om A c (18446744073709551615 - un a) w aS h
 have hadd:=fun w=>jv (sg (18446744073709551615 - un a)) 1 w (by unfold sg;split <;> omega) aS
 rw[neg_sum ha] at hadd;have htab:Hid (tab 64 (fun i=>1 - bit (un a) i)=tab 64 (bit (18446744073709551615 - un a))):=j9 fun i hi=>(bit_not hU hi).symm
 generalize wrap64 (-a)=R at *;generalize sg (18446744073709551615 - un a)=N1 at *;generalize 18446744073709551615 - un a=S at *;generalize un a=U at *;clear ha hU;go_enter Tryz.func297,Tryz.ntmps297;go_wp2_with ((go_at_call 183;go_call (hba _) as e w1 ⟨A1,c1,rfl,own1,hb1⟩);replace hb1:=bx (a:=w) (B:=w.heap.size) a9 hb1 ba;have hb1s:=hb1.size);have hb1s:=hb1.size;obtain⟨g1,rfl,_,hg1⟩:=own1.addr aS;have hc1:∀ k,k<64->Hid (w1.cell? ⟨g1,k,none⟩=some (I (bit U k:Nat))):=fun k hk=>own1.tab_cell hk
 clear own1 hba;go_loopw [4,5] (fun v i wr=>∃ k A c,k<=64/\i=I (k:Nat)/\v=.slice A k c/\Ow iv wr w1.heap.size 3 A k c (tab k (fun i=>1 - bit U i))/\Below w1.heap.size w1 wr) (fun _ i _=>64 - (intOf i).toNat)
 case atStart=>exact⟨0,none,0,aS,rfl,rfl,Ow.nil _ _ _ _,Below.refl _ _⟩
 case round=>
  obtain⟨k,A,c,hk,rfl,rfl,hown,hb⟩:=hrel;have hbs:=hb.size
  by_cases hlt:k<64
  · have d1:=(hb.cell (p:=⟨g1,k,none⟩) hg1).trans (hc1 k hlt).out;have l1:=gE U k;have hsu:=j8 k (fun i=>1 - bit U i);rw[show ((1 - bit U k:Nat):Int)=1 - ((bit U k:Nat):Int) by omega] at hsu;replace hsu:=aT hsu;clear hc1 htab hnum;generalize hLK:tab (k+1) (fun i=>1 - bit U i)=L' at *;replace hLK:=aT hLK;generalize tab k (fun i=>1 - bit U i)=L at *;generalize bit U k=u at *;go_wp2_with (at_builtin;refine dm rfl rfl dL eJ (s:=.tmp 12) (N:=k+1) (L:=L') rfl (hown.below (b:=wr.heap.size) a9 ba) rfl (k:=[1 - (u:Int)]) (Rd.of_block (l:=[1 - (u:Int)]) (df _ _ a8) rfl) rfl (hsu.out) bI aS ba ?_;intro A5 c5 w5 hown5 hg5 hat5 hb5);replace hb5:=bx (a:=w1) (B:=w1.heap.size) a9 hb5 ba;go_roundw
    case rel=>exact⟨k+1,A5,c5,aS,by go_num,rfl,by rw[hLK.out];exact hown5,hb5⟩
    case measure=>simp[intOf];omega
  · have hk9:k=64:=aS;subst hk9;rw[htab.out] at hown;go_wp2_with (first | (go_at_call 185;go_call (hnum _ _ _ hown.rd.ri) as e w9 ⟨rfl,rfl⟩) | ((go_at_call 299;go_call (hadd _) as e w10 ⟨rfl,hb10⟩);replace hb10:=bx (a:=w1) (B:=w1.heap.size) a9 hb10 ba) | fail);go_ret;exact⟨rfl,bx hb1 hb10 hb1s⟩
theorem hb_at {w:World}{b o k:Nat}(h:RI w (some ⟨b,o,none⟩) 65 (tab 65 (bT X)))(hk:k<65):w.cell? ⟨b,o+k,none⟩=some (I (bT X k:Nat)):=h.tab_cell hk
theorem refless_any (A B:Option Addr)(c d X Y:Nat)(w:World)(ha:RI w A 65 (tab 65 (bT X)))(hb':RI w B 65 (tab 65 (bT Y)))(hX:X<36893488147419103232)(hY:Y<36893488147419103232) :
 Ca 318 #[.slice A 65 c,.slice B 65 d] w fun e w'=>e=.returned (.bool (decide (X<Y)))/\Below w.heap.size w w':=by
 obtain⟨b0,o0,rfl,hl0⟩:=ha.addr aS;obtain⟨b1,o1,rfl,hl1⟩:=hb'.addr aS;have hc0:∀ k,k<65->Hid (w.cell? ⟨b0,o0+k,none⟩=some (I (bT X k:Nat))):=fun k hk=>hb_at ha hk
 have hc1:∀ k,k<65->Hid (w.cell? ⟨b1,o1+k,none⟩=some (I (bT Y k:Nat))):=fun k hk=>hb_at hb' hk
 have hx0:X / 2 ^ (65 - 0)=0:=Nat.div_eq_of_lt hX;have hy0:Y / 2 ^ (65 - 0)=0:=Nat.div_eq_of_lt hY;have h00:=aT (hx0.trans hy0.symm);clear ha hb' hX hY hx0 hy0;generalize hz:decide (X<Y)=z;have HZ:=aT hz;clear hz;go_enter Tryz.func318,Tryz.ntmps318;go_wp2;go_loopw [5] (fun i wr=>∃ k q,k<=65/\i=I (k:Nat)/\Hid (X / 2 ^ (65 - k)=Y / 2 ^ (65 - k))/\wr=w.drewN q) (fun i _=>65 - (intOf i).toNat)
 case atStart=>exact⟨0,0,aS,rfl,h00,rfl⟩
 case round=>
  obtain⟨k,q,hk,rfl,heq,rfl⟩:=hrel
  by_cases hlt:k<65
  · have d0:=(hc0 k hlt).out;have d1:=(hc1 k hlt).out;have e0:=heq.out;rw[show 65 - k=(64 - k)+1 by omega] at e0
    by_cases hh:bT X k=bT Y k
    · have hne:(((bT X k:Nat):Int) != ((bT Y k:Nat):Int))=false:=by simp[hh]
      have hn:=less_on e0 hh;rw[show 64 - k=65 - (k+1) by omega] at hn;have HN:=aT hn;clear hh hn e0 hc0 hc1;generalize bT X k=u at *;generalize bT Y k=v at *;go_wp2;go_quiet (fail);go_wp2;go_roundw
      case rel=>exact⟨k+1,q+nq,aS,by go_num,HN,rfl⟩
      case measure=>simp[intOf];omega
    · have hne:(((bT X k:Nat):Int) != ((bT Y k:Nat):Int))=true:=by rw[ag];omega
      have hr:=less_at e0 hh;have hzz:Hid (z=decide (bT X k<bT Y k)):=by
       show z=_
       rw[<- HZ.out];exact decide_eq_decide.2 hr
      clear hh e0 hr hc0 hc1;generalize bT X k=u at *;generalize bT Y k=v at *;go_wp2;go_quiet (fail);go_wp2;go_quiet (fail);go_wp2;go_ret;exact⟨dn hzz.out.symm,a9⟩
  · have hk9:k=65:=aS;subst hk9;have hF:z=false:=by
     rw[<- HZ.out,aD];have:=heq.out;simp only[Nat.sub_self,Nat.pow_zero,Nat.div_one] at this;omega
    go_wp2;go_ret;exact⟨dn hF.symm,a9⟩
theorem hb_first (N:Nat)(h:N<18446744073709551616):tab 1 (bT N)=[0]:=by
 have:bT N 0=0:=by unfold bT bit;rw[Nat.div_eq_of_lt h]
 unfold tab;simp[this]
theorem pl (a:Int)(w:World)(ha:In64 a) :
 Ca 317 #[I a] w fun e w'=>∃ A c,e=.returned (.slice A 65 c)/\Ow iv w' w.heap.size 3 A 65 c (tab 65 (bT a.natAbs))/\Below w.heap.size w w':=by
 have hneg:=fun w=>lc a w ha
 have hun:=un_neg ha;have hN:a.natAbs<18446744073709551616:=by unfold In64 at ha;omega
 have h1:=aT (hb_first a.natAbs hN);have hin:In64 (if a<0 then wrap64 (-a) else a):=by
  split
  · exact ip _
  · exact ha
 have hba:=fun w=>kD _ w hin.1 hin.2
 rw[hun] at hba;clear hun hin hN ha;generalize a.natAbs=N at *;go_enter Tryz.func317,Tryz.ntmps317
 by_cases hs:a<0
 · rw[if_pos hs] at hba;generalize wrap64 (-a)=a' at *;go_wp2_with (first | ((go_at_call 297;go_call (hneg _) as e w0 ⟨rfl,hb0⟩);replace hb0:=bx (a:=w) (B:=w.heap.size) a9 hb0 ba;have hb0s:=hb0.size) | ((go_at_call 183;go_call (hba _) as e w1 ⟨A1,c1,rfl,own1,hb1⟩);have hb01:=bx (a:=w) (B:=w.heap.size) (by exact hb0) hb1 ba) | fail);have hb1s:=hb01.size;obtain⟨g1,rfl,_,hg1⟩:=own1.addr aS;have hc1:∀ k,k<64->Hid (w1.cell? ⟨g1,k,none⟩=some (I (bit N k:Nat))):=fun k hk=>own1.tab_cell hk
   clear own1 hba hneg;go_loopw [4,5] (fun v i wr=>∃ (t:Nat) (A:Option Addr) (c:Nat),t<=64/\i=I (63 - (t:Int))/\v=.slice A (t+1) c/\Ow iv wr w1.heap.size 3 A (t+1) c (tab (t+1) (bT N))/\Below w1.heap.size w1 wr) (fun _ i _=>(intOf i+1).toNat)
   case atStart=>
    refine⟨0,some ⟨w1.heap.size,0,none⟩,1,aS,rfl,rfl,?_,(Below.refl _ _).alloc aW _⟩;rw[h1.out];exact Ow.new w1 3 #[I 0] [0] rfl aU
   case round=>
    obtain⟨t,A,c,ht,rfl,rfl,hown,hb⟩:=hrel;have hbs:=hb.size
    by_cases hlt:t<64
    · have d1:=(hb.cell (p:=⟨g1,63 - t,none⟩) hg1).trans (hc1 (63 - t) aS).out;obtain⟨j,hj⟩:∃ j:Nat,63 - t=j:=⟨_,rfl⟩;have hji:(63:Int) - (t:Int)=(j:Int):=aS;have hsu:=j8 (t+1) (bT N);rw[show bT N (t+1)=bit N (63 - t) from by unfold bT;rw[show 64 - (t+1)=63 - t by omega]] at hsu;replace hsu:=aT hsu;rw[hji];rw[hj] at d1 hsu;have hj64:j<64:=aS;have HJ:=aT hj;clear hc1 h1 hj hji;generalize hLK:tab (t+1+1) (bT N)=L' at *;replace hLK:=aT hLK;generalize tab (t+1) (bT N)=L at *;generalize bit N j=u at *;go_wp2_with (at_builtin;refine dm rfl rfl dL eJ (s:=.tmp 17) (N:=t+1+1) (L:=L') rfl (hown.below (b:=wr.heap.size) a9 ba) rfl (k:=[(u:Int)]) (Rd.of_block (l:=[(u:Int)]) (df _ _ a8) rfl) rfl (hsu.out) bI aS ba ?_;intro A5 c5 w5 hown5 hg5 hat5 hb5);replace hb5:=bx (a:=w1) (B:=w1.heap.size) a9 hb5 ba;go_roundw
      case rel=>exact⟨t+1,A5,c5,aS,by have:=HJ.out;go_num,rfl,by rw[hLK.out];exact hown5,hb5⟩
      case measure=>simp[intOf]
    · have hk9:t=64:=aS;subst hk9;go_wp2;go_ret;exact⟨A,c,rfl,hown.rebase hb1s,bx hb01 hb hb1s⟩
 · rw[if_neg hs] at hba;go_wp2_with (first | ((go_at_call 183;go_call (hba _) as e w1 ⟨A1,c1,rfl,own1,hb1⟩);have hb01:=hb1) | fail);have hb1s:=hb01.size;obtain⟨g1,rfl,_,hg1⟩:=own1.addr aS;have hc1:∀ k,k<64->Hid (w1.cell? ⟨g1,k,none⟩=some (I (bit N k:Nat))):=fun k hk=>own1.tab_cell hk
   clear own1 hba hneg;go_loopw [4,5] (fun v i wr=>∃ (t:Nat) (A:Option Addr) (c:Nat),t<=64/\i=I (63 - (t:Int))/\v=.slice A (t+1) c/\Ow iv wr w1.heap.size 3 A (t+1) c (tab (t+1) (bT N))/\Below w1.heap.size w1 wr) (fun _ i _=>(intOf i+1).toNat)
   case atStart=>
    refine⟨0,some ⟨w1.heap.size,0,none⟩,1,aS,rfl,rfl,?_,(Below.refl _ _).alloc aW _⟩;rw[h1.out];exact Ow.new w1 3 #[I 0] [0] rfl aU
   case round=>
    obtain⟨t,A,c,ht,rfl,rfl,hown,hb⟩:=hrel;have hbs:=hb.size
    by_cases hlt:t<64
    · have d1:=(hb.cell (p:=⟨g1,63 - t,none⟩) hg1).trans (hc1 (63 - t) aS).out;obtain⟨j,hj⟩:∃ j:Nat,63 - t=j:=⟨_,rfl⟩;have hji:(63:Int) - (t:Int)=(j:Int):=aS;have hsu:=j8 (t+1) (bT N);rw[show bT N (t+1)=bit N (63 - t) from by unfold bT;rw[show 64 - (t+1)=63 - t by omega]] at hsu;replace hsu:=aT hsu;rw[hji];rw[hj] at d1 hsu;have hj64:j<64:=aS;have HJ:=aT hj;clear hc1 h1 hj hji;generalize hLK:tab (t+1+1) (bT N)=L' at *;replace hLK:=aT hLK;generalize tab (t+1) (bT N)=L at *;generalize bit N j=u at *;go_wp2_with (at_builtin;refine dm rfl rfl dL eJ (s:=.tmp 17) (N:=t+1+1) (L:=L') rfl (hown.below (b:=wr.heap.size) a9 ba) rfl (k:=[(u:Int)]) (Rd.of_block (l:=[(u:Int)]) (df _ _ a8) rfl) rfl (hsu.out) bI aS ba ?_;intro A5 c5 w5 hown5 hg5 hat5 hb5);replace hb5:=bx (a:=w1) (B:=w1.heap.size) a9 hb5 ba;go_roundw
      case rel=>exact⟨t+1,A5,c5,aS,by have:=HJ.out;go_num,rfl,by rw[hLK.out];exact hown5,hb5⟩
      case measure=>simp[intOf]
    · have hk9:t=64:=aS;subst hk9;go_wp2;go_ret;exact⟨A,c,rfl,hown.rebase hb1s,bx hb01 hb hb1s⟩
def gX (X Y t i:Nat):Nat:=if 64 - i<t then bT (X - Y) i else bT X i
theorem takeF_zero (X Y:Nat):tab 65 (gX X Y 0)=tab 65 (bT X):=j9 fun i _=>by unfold gX;rw[if_neg aS]
theorem takeF_all (X Y:Nat):tab 65 (gX X Y 65)=tab 65 (bT (X - Y)):=j9 fun i _=>by unfold gX;rw[if_pos aS]
theorem takeF_next {Y t i:Nat}(ht:t<65)(hi:i<65):(if i=64 - t then bit (X - Y) t else gX X Y t i)=gX X Y (t+1) i:=by
 unfold gX bT
 by_cases h:i=64 - t
 · rw[if_pos h,if_pos aS,show 64 - i=t by omega]
 · rw[if_neg h]
   by_cases h2:64 - i<t
   · rw[if_pos h2,if_pos aS]
   · rw[if_neg h2,if_neg aS]
theorem bit_sub_int {Y:Nat}(h:Y<=X)(t:Nat):(bit (X - Y) t:Int)=if (bit X t:Int) - (bit Y t:Int) - (borK X Y t:Int)<0 then (bit X t:Int) - (bit Y t:Int) - (borK X Y t:Int)+2 else (bit X t:Int) - (bit Y t:Int) - (borK X Y t:Int):=by
 have e:=bit_sub h t;have hx:=gE X t;have hy:=gE Y t;have hb:=borK_le X Y t
 split <;> omega
theorem reftake_any (A B:Option Addr)(c d X Y:Nat)(w:World)(ha:RI w A 65 (tab 65 (bT X)))(hb':RI w B 65 (tab 65 (bT Y)))(hYX:Y<=X) :
 Ca 319 #[.slice A 65 c,.slice B 65 d] w fun e w'=>∃ A' c',e=.returned (.slice A' 65 c')/\Ow iv w' w.heap.size 3 A' 65 c' (tab 65 (bT (X - Y)))/\Below w.heap.size w w':=by
 obtain⟨b0,o0,rfl,hl0⟩:=ha.addr aS;obtain⟨b1,o1,rfl,hl1⟩:=hb'.addr aS;have hc0:∀ k,k<65->Hid (w.cell? ⟨b0,o0+k,none⟩=some (I (bT X k:Nat))):=fun k hk=>hb_at ha hk
 have hc1:∀ k,k<65->Hid (w.cell? ⟨b1,o1+k,none⟩=some (I (bT Y k:Nat))):=fun k hk=>hb_at hb' hk
 have HA:=aT ha;have HL:=aT (show ([]:List Int) ++ tab 65 (bT X)=tab 65 (gX X Y 0) from (takeF_zero X Y).symm);have HYX:=aT hYX;clear hb' ha hYX;go_enter Tryz.func319,Tryz.ntmps319;go_wp2_with (first | (at_builtin;refine dm rfl rfl dL eJ (s:=.tmp 9) (N:=65) (L:=tab 65 (gX X Y 0)) rfl (Ow.new w 3 #[] [] rfl aU) rfl (k:=tab 65 (bT X)) (HA.out.below (B:=w.heap.size) ((Below.refl _ _).alloc aW _) aW).rd aS HL.out bI aS ba ?_;intro A2 c2 w2 hown2 hg2 hat2 hb2;replace hown2:=hown2.rebase (base':=w.heap.size) ba;replace hb2:=bx (a:=w) (B:=w.heap.size) a9 hb2 ba) | fail);obtain⟨g,rfl,hgb,hgl⟩:=hown2.addr aS;clear HA HL hat2 hg2;go_loopw [6,7,8] (fun bo i _ wr=>∃ t:Nat,t<=65/\i=I (64 - (t:Int))/\bo=I (borK X Y t:Nat)/\Ow iv wr w.heap.size 3 (some ⟨g,0,none⟩) 65 c2 (tab 65 (gX X Y t))/\Below w.heap.size w wr) (fun _ i _ _=>(intOf i+1).toNat)
 case atStart=>exact⟨0,aS,rfl,by simp[borK,Nat.mod_one],hown2,hb2⟩
 case round=>
  obtain⟨t,ht,rfl,rfl,hown,hb⟩:=hrel
  by_cases hlt:t<65
  · have d0:=(hb.cell (p:=⟨b0,o0+(64 - t),none⟩) hl0).trans (hc0 (64 - t) aS).out;have d1:=(hb.cell (p:=⟨b1,o1+(64 - t),none⟩) hl1).trans (hc1 (64 - t) aS).out;rw[show bT X (64 - t)=bit X t from by unfold bT;rw[show 64 - (64 - t)=t by omega]] at d0;rw[show bT Y (64 - t)=bit Y t from by unfold bT;rw[show 64 - (64 - t)=t by omega]] at d1;have hbi:=bit_sub_int HYX.out t;have hbn:=borK_next X Y t;have lx:=gE X t;have ly:=gE Y t;have lb:=borK_le X Y t;have hset:=fun u (hu:u=I (bit (X - Y) t:Nat))=>aT (hown.tab_set (f':=gX X Y (t+1)) (64 - t) (bit (X - Y) t) u aS hu (fun i hi=>takeF_next hlt hi))
    have hfree:=hown.free (64 - t);have hcell:=hown.tab_cell (k:=64 - t) aS;obtain⟨j,hj⟩:∃ j:Nat,64 - t=j:=⟨_,rfl⟩;have hji:(64:Int) - (t:Int)=(j:Int):=aS;rw[hji];rw[hj] at d0 d1 hset hfree hcell;have hj65:j<65:=aS;have HJ:=aT hj;clear hj hji hc0 hc1;generalize gX X Y t j=old at *;generalize bit (X - Y) t=r at *;generalize bit X t=u at *;generalize bit Y t=v at *;generalize borK X Y t=bo at *;clear hown
    by_cases hn:(u:Int) - (v:Int) - (bo:Int)<0
    · rw[if_pos hn] at hbi hbn;have hrr:Hid ((u:Int) - (v:Int) - (bo:Int)+2=(r:Int)):=hbi.symm;have HBN:=aT hbn;clear hbi hbn;go_wp2;go_quiet (fail);go_wp2;go_roundw
      case rel=>exact⟨t+1,aS,by have:=HJ.out;go_num,by rw[HBN.out];rfl,(hset _ (by rw[hrr.out])).out,a9⟩
      case measure=>simp[intOf]
    · rw[if_neg hn] at hbi hbn;have hrr:Hid ((u:Int) - (v:Int) - (bo:Int)=(r:Int)):=hbi.symm;have HBN:=aT hbn;clear hbi hbn;go_wp2;go_quiet (fail);go_wp2;go_roundw
      case rel=>exact⟨t+1,aS,by have:=HJ.out;go_num,by rw[HBN.out];rfl,(hset _ (by rw[hrr.out])).out,a9⟩
      case measure=>simp[intOf]
  · have hk9:t=65:=aS;subst hk9;rw[takeF_all] at hown;go_wp2;go_ret;exact⟨some ⟨g,0,none⟩,c2,rfl,hown,hb⟩
end Go.Proofs.YtmeebofhlilcmaaGreat
