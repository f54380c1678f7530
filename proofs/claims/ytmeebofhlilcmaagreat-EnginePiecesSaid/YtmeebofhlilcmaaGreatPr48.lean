/- Parts. -/
import Derived.Test.YtmeebofhlilcmaaGreatPr47
set_option linter.unusedVariables false
set_option linter.unusedSimpArgs false
set_option maxRecDepth 100000
set_option maxHeartbeats 0
namespace Go.Proofs.YtmeebofhlilcmaaGreat
variable {bytes off gx:Nat}
open Go.RowKit
def gF (w:World)(base:Nat)(A:Option Addr)(c:Nat)(l:List Int):Prop :=
 ∃ g off cs,A=some ⟨g,off,none⟩/\base<=g/\Blk w g 3 cs/\off+c=cs.length/\65<=c/\c<=maxLen/\l.length=65/\∀ i,i<65->cs[off+i]?=some (iv (ba l i))
section
variable {w w':World} {base c:Nat} {A:Option Addr} {l:List Int}
theorem gF.of_ow (h:Ow iv w base 3 A 65 c l):gF w base A c l:=by
 obtain⟨hc1,hc2⟩:=h.cap;have hl:=h.1;rcases h.2.2 with ⟨_,hn⟩ | ⟨g,cap,cur,hv,hb,hg,hnc,hcm,hsz,ht⟩
 · omega
 · injection hv with hv _ hcap;subst hv hcap;have hcs:cur.toList.length=c:=by rw[Array.length_toList,hsz];omega
   refine⟨g,0,cur.toList,rfl,hb,by unfold Blk;rw[hg],aS,hc1,hc2,hl,fun i hi=>?_⟩;have e:(cur.toList.take (65 * 1))[i]?=(l.map iv)[i]?:=by rw[ht]
   rw[aK,if_pos aS,List.getElem?_map] at e;rw[aB,e];unfold ba;rw[ag,ap (show i<l.length by omega)];rfl
theorem gF.below (h:gF w base A c l)(hb:Below w.heap.size w w'):gF w' base A c l:=by
 obtain⟨g,off,cs,h1,h2,h3,h4⟩:=h;exact⟨g,off,cs,h1,h2,h3.below hb h3.lt,h4⟩
theorem gF.ri (h:gF w base A c l):RI w A 65 l:=by
 obtain⟨g,off,cs,rfl,h2,h3,h4,h5,h6,h7,h8⟩:=h;exact⟨h7,Row.of_block (cs:=cs.toArray) h3 off fun i hi=>by rw[List.getElem?_toArray];exact h8 i hi⟩
theorem pU {α:Type}(cs:List α)(o:Nat)(v:α)(h:o<cs.length):splice cs o [v]=cs.set o v:=by
 unfold splice;rw[List.set_eq_take_append_cons_drop,if_pos h];simp
theorem run_shift {P:Program}{t ty:TypeId}{z:Value}{g:Nat}{v:Int}(hE:dO P t 3 z 1 bytes)(hT:gF w base (some ⟨g,off,none⟩) c l)(hv:w.cell? ⟨gx,0,none⟩=some (iv v))(hb65:65 * bytes<=140737488355328)(hbase:base<=w.heap.size) :
 ∃ A' c' w',(Builtin.append_ #[t,t] ty #[.slice (some ⟨g,off+1,none⟩) 64 (c - 1),.slice (some ⟨gx,0,none⟩) 1 1]).run P w=.ok (.slice A' 65 c') w'/\gF w' base A' c' (l.drop 1 ++ [v])/\Below base w w':=by
 obtain⟨g',off',cs,h1,h2,h3,h4,h5,h6,h7,h8⟩:=hT;injection h1 with h1;injection h1 with e1 e2 _;subst e1 e2;obtain⟨ht,⟨i,hi,hz,hs,hby⟩,hzs,hs0⟩:=hE;have hn:∀ j u,([iv v]:List Value)[j]?=some u->w.cell? ((⟨gx,0,none⟩:Addr).add j)=some u:=fun j u hj=>by
  cases j with
  | zero=>injection hj with hj;subst hj;exact hv
  | succ j=>simp at hj
 have nx:∀ i,i<65->ba (l.drop 1 ++ [v]) i=if i=64 then v else ba l (i+1):=fun i hi=>by
  unfold ba;rw[ag,ag,List.getElem?_append,aG,h7]
  by_cases q:i=64
  · subst q;rw[if_neg aS,if_pos rfl];rfl
  · rw[if_pos aS,if_neg q,List.getElem?_drop,Nat.add_comm]
 by_cases hr:65<=c - 1
 · have hrun:=run_append_room_cells (P:=P) (w:=w) t ty 3 i ht hi g (off+1) 64 (c - 1) ⟨gx,0,none⟩ 1 1 [iv v] (by rw[hs];rfl) hn (fun u hu=>by rw[List.mem_singleton] at hu;rw[hu];rfl) hr
    (fun j hj=>by
     have:j=0:=by simpa using hj
     subst this;rw[hs,h3.cell,ap aS];rfl)
    (fun j hj=>h3.frozen _)
   rw[hs] at hrun;refine⟨some ⟨g,off+1,none⟩,c - 1,_,hrun,⟨g,off+1,_,rfl,h2,Blk.setCells [iv v] (off+1+64 * 1) w cs h3 cO,?_,hr,aS,by simp[h7],fun j hj=>?_⟩,(Below.refl _ _).grown (mN g _ _ w) hbase (fun g9 e=>by injection e with e;omega)⟩
   · rw[pU _ _ _ aS,List.length_set];omega
   · rw[pU _ _ _ aS,List.getElem?_set,nx j hj]
     by_cases q:j=64
     · subst q;rw[if_pos aS,if_pos aS,if_pos rfl]
     · rw[if_neg aS,if_neg q,show off+1+j=off+(j+1) by omega];exact h8 (j+1) aS
 · obtain⟨v',w',hrun,hown,hg⟩:=run_append_arg_grows (P:=P) (w:=w) t ty 3 i z 1 bytes ht hi hz hs hby hzs aS ⟨g,off+1,none⟩ 64 (c - 1) ((l.drop 1).map iv) (by simp[h7]) (fun j u hj=>by
    rw[List.getElem?_map,List.getElem?_drop] at hj;have hj64:1+j<65:=by
     refine Decidable.byContradiction fun hc=>?_
     rw[aE aS] at hj;cases hj
    have hjl:1+j<l.length:=aS;rw[ap hjl] at hj;have h9:=h8 (1+j) hj64;unfold ba at h9;rw[ag,ap hjl] at h9;rw[Addr.add_lit,h3.cell,Nat.add_assoc,h9];exact hj) ⟨gx,0,none⟩ 1 1 [iv v] rfl hn aS bO aS
   have hOw:w'.ownsRow w.heap.size 3 1 v' 65 ((l.drop 1 ++ [v]).map iv):=by rw[List.map_append];exact hown
   obtain⟨A',c',e',_,_,_⟩:=kH hOw;subst e';have ow:Ow iv w' w.heap.size 3 A' 65 c' (l.drop 1 ++ [v]):=⟨by simp[h7],hOw⟩;exact⟨A',c',w',hrun,gF.of_ow (ow.rebase hbase),(Below.refl _ _).grown hg hbase (fun g9 e=>by cases e)⟩
theorem step_shift {P:Program}{ops:Array Oper}{o:Oper}{a:Act}{K:Act->World->Prop}{Q:Exit->Act->World->Prop}{E:Prop}{s x:Operand}{t:TypeId}{z:Value}{g:Nat}{v:Int}(hgd:o.guard=none)
 (ho:o.op=.call { callee:=.builtin .append,args:=#[s,x],argTypes:=#[t,t] }) (hE:dO P t 3 z 1 bytes)
 (hs:a.eval s=.slice (some ⟨g,off+1,none⟩) 64 (c - 1)) (hT:gF w base (some ⟨g,off,none⟩) c l) (hx:a.eval x=.slice (some ⟨gx,0,none⟩) 1 1) (hv:w.cell? ⟨gx,0,none⟩=some (iv v)) (hb65:65 * bytes<=140737488355328) (hbase:base<=w.heap.size)
 (h:∀ A' c' w',gF w' base A' c' (l.drop 1 ++ [v])->Below base w w'->K (a.put o.dst (.slice A' 65 c')) w') :
 if Region.wanted o (yielded ops a.tmps)=true then Oper.wp P o a w K Q else E:=by
 have hw:Region.wanted o (yielded ops a.tmps)=true:=by simp[Region.wanted,hgd]
 rw[if_pos hw];obtain⟨A',c',w',hrun,h1,h2⟩:=run_shift (P:=P) (ty:=o.type) hE hT hv hb65 hbase;unfold Oper.wp execOp;simp only[ho,resolve,invoke,builtin,Sem.run_bind,Sem.run_pure,Result.andThen_ok,List.map_toArray,List.map_cons,List.map_nil,hs,hx,hrun];exact h A' c' w' h1 h2
end
theorem hibit_zero:tab 65 (fun _=>0)=tab 65 (cd 0):=ki fun i _=>by unfold cd bit;simp
theorem tab_shift {R b:Nat}(hb1:b<=1):(tab 65 (cd R)).drop 1 ++ [(b:Int)]=tab 65 (cd (2 * R+b)):=by
 apply List.ext_getElem?;intro i;rw[List.getElem?_append,aG,kM]
 by_cases h:i<64
 · rw[if_pos h,List.getElem?_drop];unfold tab;rw[List.getElem?_map,List.getElem?_map,List.getElem?_range aS,List.getElem?_range aS]
   show some ((cd R (1+i):Nat):Int)=some ((cd (2 * R+b) i:Nat):Int)
   rw[pu hb1 aS,if_neg aS,Nat.add_comm]
 · rw[if_neg h]
   by_cases h2:i=64
   · subst h2;unfold tab;rw[List.getElem?_map,List.getElem?_range aS]
     show some (b:Int)=some ((cd (2 * R+b) 64:Nat):Int)
     rw[pu hb1 aS,if_pos rfl]
   · rw[aE cO,aE (by rw[kM];omega)]
theorem wrap_dbl (Q:Nat):wrap64 (wrap64 (Q:Int)+wrap64 (Q:Int))=wrap64 ((2 * Q:Nat):Int):=by unfold wrap64;omega
theorem wrap_one (Q:Nat):wrap64 (wrap64 ((2 * Q:Nat):Int)+1)=wrap64 ((2 * Q+1:Nat):Int):=by unfold wrap64;omega
theorem refdiv03_zero (a:Int)(w:World):Ca 301 #[I a,I 0] w fun e w'=>e=.returned (I 0)/\Below w.heap.size w w':=by
 go_enter Tryz.func301,Tryz.ntmps301;go_wp2;go_ret;exact⟨rfl,be⟩
theorem refdiv03_main (a b:Int)(w:World)(ha:In64 a)(hb':In64 b)(h0:b≠0):Ca 301 #[I a,I b] w fun e w'=>e=.returned (I (divK a b))/\Below w.heap.size w w':=by
 have hha:=fun w=>pT a w ha
 have hhb:=fun w=>pT b w hb'
 have hX:a.natAbs<=9223372036854775808:=by unfold In64 at ha;omega
 have hY:b.natAbs<=9223372036854775808:=by unfold In64 at hb';omega
 have hY0:0<b.natAbs:=aS;have hD:=aT (divK_abs ha h0);have hng:=fun w=>lC (wrap64 ((a.natAbs / b.natAbs:Nat):Int)) w (iA _)
 have hb0:(b == 0)=false:=by rw[ae];exact h0
 generalize divK a b=R at *;generalize hXX:a.natAbs=X at *;generalize hYY:b.natAbs=Y at *;clear hXX hYY h0 ha hb';have HX:=aT hX;have HY:=aT hY;have HY0:=aT hY0;clear hX hY hY0;go_enter Tryz.func301,Tryz.ntmps301;go_wp2_with (first | ((go_at_call 317;(with_reducible refine (hha _).mono ?_);rintro e w1 ⟨A1,c1,rfl,own1,hb1⟩);replace hb1:=bB (a:=w) (B:=w.heap.size) be hb1 aZ;have hb1s:=hb1.size) | ((go_at_call 317;(with_reducible refine (hhb _).mono ?_);rintro e w2 ⟨A2,c2,rfl,own2,hb2⟩);have own1a:=own1.below hb2 aV;replace hb2:=bB (a:=w) (B:=w.heap.size) be hb2 aZ;have hb2s:=hb2.size) | fail);have hb2s:=hb2.size;obtain⟨g1,rfl,_,hg1⟩:=own1a.addr aS;obtain⟨g2,rfl,_,hg2⟩:=own2.addr aS;have hc1:∀ k,k<65->Hid (w2.cell? ⟨g1,k,none⟩=some (I (cd X k:Nat))):=fun k hk=>own1a.tab_cell hk
 have OY:=aT own2;clear own1 own1a own2 hha hhb;go_loopw [7,8] (fun v i wr=>∃ k A c,k<=65/\i=I (k:Nat)/\v=.slice A k c/\Ow iv wr w2.heap.size 3 A k c (tab k (fun _=>0))/\Below w2.heap.size w2 wr) (fun _ i _=>65 - (intOf i).toNat)
 case atStart=>exact⟨0,none,0,aS,rfl,rfl,Ow.nil _ _ _ _,Below.refl _ _⟩
 case round=>
  obtain⟨k,A,c,hk,rfl,rfl,hown,hb⟩:=hrel;have hbs:=hb.size
  by_cases hlt:k<65
  · have hsu:=kg k (fun _=>0);replace hsu:=aT hsu;generalize hLK:tab (k+1) (fun _=>0)=L' at *;replace hLK:=aT hLK;generalize tab k (fun _=>0)=L at *;go_wp2_with (at_builtin;refine dF rfl rfl dV eS (s:=.tmp 21) (N:=k+1) (L:=L') rfl (hown.below (b:=wr.heap.size) be aZ) rfl (k:=[0]) (Rd.of_block (l:=[0]) (dy _ _ bj) rfl) rfl (hsu.out) bO aS aZ ?_;intro A5 c5 w5 hown5 hg5 hat5 hb5);replace hb5:=bB (a:=w2) (B:=w2.heap.size) be hb5 aZ;have hb5s:=hb5.size;go_roundw
    case rel=>exact⟨k+1,A5,c5,aS,by go_num,rfl,by rw[hLK.out];exact hown5,hb5⟩
    case measure=>simp[intOf];omega
  · have hk9:k=65:=aS;subst hk9;rw[hibit_zero] at hown;have T3:=aT (gF.of_ow hown);have B3:=aT hb;clear hown hb hbs;generalize wr=w3 at *;go_wp2_with fail;go_loopw [7,9,10] (fun v q i wr=>∃ (k:Nat) (A:Option Addr) (c:Nat),k<=65/\i=I (k:Nat)/\v=.slice A 65 c/\q=I (wrap64 ((X / 2 ^ (65 - k) / Y:Nat):Int))/\gF wr w2.heap.size A c (tab 65 (cd (X / 2 ^ (65 - k) % Y)))/\Below w2.heap.size w2 wr) (fun _ _ i _=>65 - (intOf i).toNat)
    case atStart=>
     have e0:X / 2 ^ (65 - 0)=0:=Nat.div_eq_of_lt (by have:=HX.out;omega);refine⟨0,A,c,aS,rfl,rfl,?_,?_,B3.out⟩
     · rw[e0,Nat.zero_div,show wrap64 ((0:Nat):Int)=0 from by unfold wrap64;omega]
     · rw[e0,Nat.zero_mod];exact T3.out
    case round=>
     clear T3 B3;obtain⟨k,A,c,hk,rfl,rfl,rfl,hT,hb⟩:=hrel;have hbs:=hb.size
     by_cases hlt:k<65
     · have d0:=(hc1 k hlt).out;have d1:=(hb.cell (p:=⟨g1,k,none⟩) hg1).trans d0;have hN:=top_next (X:=X) hlt;have hbk:=nP X k;obtain⟨g,off,csT,rfl,hgb,hBl,hoc,hc65,hcm,_,_⟩:=id hT;have hgl:=hBl.lt;have hcut:∀ W,(Instr.slice 22 (.slice (some ⟨g,off,none⟩) 65 c) (some (I 1)) none none).run Tryz.prog W=.ok (.slice (some ⟨g,off+1,none⟩) 64 (c - 1)) W:=fun W=>by
        have:=jC (P:=Tryz.prog) dV (some ⟨g,off,none⟩) 65 c 1 aS W;rw[if_neg aS,Option.map_some,Addr.add_lit] at this;exact this
       have hQ:=fun w=>jz (wrap64 ((X / 2 ^ (65 - k) / Y:Nat):Int)) (wrap64 ((X / 2 ^ (65 - k) / Y:Nat):Int)) w (iA _) (iA _)
       rw[wrap_dbl] at hQ;have hR:X / 2 ^ (65 - k) % Y<Y:=Nat.mod_lt _ HY0.out;have hYm:=HY.out;obtain⟨l1,l2⟩:=long_next (Q:=X / 2 ^ (65 - k) / Y) (R:=X / 2 ^ (65 - k) % Y) (b:=cd X k) (N:=X / 2 ^ (65 - k)) HY0.out (by rw[Nat.mul_comm];exact (Nat.div_add_mod _ _).symm) hR hbk;rw[<- hN] at l1 l2;have hsh:=tab_shift (R:=X / 2 ^ (65 - k) % Y) hbk;have hls:=fun (w:World) (A:Option Addr) (c:Nat) h1 h2=>refless_any A (some ⟨g2,0,none⟩) c c2 (2 * (X / 2 ^ (65 - k) % Y)+cd X k) Y w h1 h2 aS aS
       have htk:=fun (hle:Y<=2 * (X / 2 ^ (65 - k) % Y)+cd X k) (w:World) (A:Option Addr) (c:Nat) h1 h2=>reftake_any A (some ⟨g2,0,none⟩) c c2 (2 * (X / 2 ^ (65 - k) % Y)+cd X k) Y w h1 h2 hle
       have hone:=fun w=>jz (wrap64 ((2 * (X / 2 ^ (65 - k) / Y):Nat):Int)) 1 w (iA _) aS
       rw[wrap_one] at hone;have HT:=aT hT;have L1:=aT l1;have L2:=aT l2;have HSH:=aT hsh;clear hT hN hR hYm l1 l2 hsh hc1 hBl hoc hbk;generalize hn1:X / 2 ^ (65 - (k+1)) / Y=Q1 at *;generalize hr1:X / 2 ^ (65 - (k+1)) % Y=R1 at *;generalize X / 2 ^ (65 - k) / Y=Q0 at *;generalize X / 2 ^ (65 - k) % Y=R0 at *;generalize cd X k=bk at *;have HN1:=aT hn1;have HR1:=aT hr1;clear hn1 hr1;generalize hS:2 * R0+bk=S at *;clear hS;generalize hW0:wrap64 (Q0:Int)=W0 at *;clear hW0;generalize hW2:wrap64 ((2 * Q0:Nat):Int)=W2 at *;have HW2:=aT hW2;clear hW2;go_wp2_with fail;have hvx:(wr.alloc (.cells #[I (bk:Nat)] 3)).drew.cell? ⟨wr.heap.size,0,none⟩=some (iv (bk:Int)):=(Blk.drew (show Blk (wr.alloc (.cells #[I (bk:Nat)] 3)) wr.heap.size 3 [I (bk:Nat)] from Blk.top _ rfl rfl)).cell 0;go_region_held3 (fun w'=>w'.cell? ⟨g1,k,none⟩=some (I (bk:Nat))) (first | go_keep | assumption) (first | (refine step_shift (base:=w2.heap.size) (l:=tab 65 (cd R0)) (c:=c) rfl rfl dV (s:=.tmp 29) (x:=.tmp 34) (g:=g) (off:=off) (gx:=wr.heap.size) (v:=(bk:Int)) rfl (HT.out.below be) rfl hvx aS aZ ?_;intro A5 c5 w5 hT5 hb5;rw[HSH.out] at hT5;have T5:=aT hT5;have b5:=(hb.trans (Below.mono (w':=(wr.alloc (.cells #[I (bk:Nat)] 3)).drew) (Below.drew ((Below.refl wr.heap.size wr).alloc aV _)) hbs)).trans hb5;have y5:=(b5.cell (p:=⟨g1,k,none⟩) hg1).trans d0) | fail);have s5:=b5.size
       by_cases hSY:S<Y
       · obtain⟨q1,q2⟩:=L1.out hSY;rw[am hSY] at hls;have HQ:=aT (HN1.out.trans q1);have HR:=aT (HR1.out.trans q2);clear q1 q2 hSY L1 L2 HT htk hone;go_wp2_with (first | ((go_at_call 299;go_call (hQ _) as e w6 ⟨rfl,hb6⟩);have b6:=b5.trans (hb6.mono s5);have T6:=aT (T5.out.below hb6);have Y6:=OY.out.below b6 aV;have s6:=b6.size) | ((go_at_call 318;go_call (hls _ _ _ T6.out.ri Y6.rd.ri) as e w7 ⟨rfl,hb7⟩);have b7:=b6.trans (hb7.mono s6);have T7:=aT (T6.out.below hb7)) | fail);go_roundw
         case rel=>first
          | exact⟨k+1,A5,c5,aS,by go_num,rfl,(by rw[HQ.out,HW2.out]),(by rw[HR.out];exact T7.out),b7⟩
          | ((repeat apply Exists.intro);exact⟨⟨k+1,A5,c5,aS,by go_num,rfl,(by rw[HQ.out,HW2.out]),(by rw[HR.out];exact T7.out),b7⟩,rfl⟩)
         case measure=>simp[intOf];omega
       · obtain⟨q1,q2⟩:=L2.out aS;have ht:=htk aS;rw[ah hSY] at hls;have HQ:=aT (HN1.out.trans q1);have HR:=aT (HR1.out.trans q2);clear q1 q2 hSY L1 L2 HT htk;go_wp2_with (first | ((go_at_call 299;(with_reducible refine (hQ _).mono ?_);rintro e w6 ⟨rfl,hb6⟩);have b6:=b5.trans (hb6.mono s5);have T6:=aT (T5.out.below hb6);have Y6:=OY.out.below b6 aV;have s6:=b6.size) | ((go_at_call 318;go_call (hls _ _ _ T6.out.ri Y6.rd.ri) as e w7 ⟨rfl,hb7⟩);have b7:=b6.trans (hb7.mono s6);have T7:=aT (T6.out.below hb7);have Y7:=OY.out.below b7 aV;have s7:=b7.size) | ((go_at_call 319;go_call (ht _ _ _ T7.out.ri Y7.rd.ri) as e w8 ⟨A8,c8,rfl,own8,hb8⟩);have b8:=b7.trans (hb8.mono s7);have T8:=aT (gF.of_ow (own8.rebase s7));have s8:=b8.size) | ((go_at_call 299;(with_reducible refine (hone _).mono ?_);rintro e w9 ⟨rfl,hb9⟩);have b9:=b8.trans (hb9.mono s8);have T9:=aT (T8.out.below hb9)) | fail);go_roundw
         case rel=>first
          | exact⟨k+1,A8,c8,aS,by go_num,rfl,(by rw[HQ.out,show ((2 * Q0+1:Nat):Int)=2 * (Q0:Int)+1 by omega]),(by rw[HR.out];exact T9.out),b9⟩
          | ((repeat apply Exists.intro);exact⟨⟨k+1,A8,c8,aS,by go_num,rfl,(by rw[HQ.out,show ((2 * Q0+1:Nat):Int)=2 * (Q0:Int)+1 by omega]),(by rw[HR.out];exact T9.out),b9⟩,rfl⟩)
         case measure=>simp[intOf];omega
     · have hk9:k=65:=aS;subst hk9;have hQe:X / 2 ^ (65 - 65) / Y=X / Y:=by rw[Nat.sub_self,Nat.pow_zero,Nat.div_one]
       have BB:=aT (bB hb2 hb hb2s);rw[hQe];generalize wrap64 ((X / Y:Nat):Int)=V at *;clear hT hQe
       by_cases hs:(decide (a<0) != decide (b<0))=true
       · have hR:=hD.out.trans (if_pos hs);subst hR;clear hD
         by_cases ha0:a<0 <;> by_cases hb0':b<0 <;> simp only[ha0,hb0',decide_true,decide_false,bne_self_eq_false] at hs
         all_goals first
          | (exact absurd hs aU)
          | (go_wp2_with (first | (go_at_call 297;go_call (hng _) as e w9 ⟨rfl,hb9⟩) | fail)
             go_ret;exact⟨rfl,BB.out.trans (hb9.mono BB.out.size)⟩)
       · have hR:=hD.out.trans (if_neg hs);subst hR;clear hD
         by_cases ha0:a<0 <;> by_cases hb0':b<0 <;> simp only[ha0,hb0',decide_true,decide_false,bne_self_eq_false] at hs
         all_goals first
          | (exact absurd rfl hs)
          | (go_wp2_with fail
             go_ret;exact⟨rfl,BB.out⟩)
theorem pV (a b:Int)(w:World)(ha:In64 a)(hb':In64 b):Ca 301 #[I a,I b] w fun e w'=>e=.returned (I (divK a b))/\Below w.heap.size w w':=by
 by_cases h0:b=0
 · subst h0;have:divK a 0=0:=by unfold divK;rw[if_pos rfl]
   rw[this];exact refdiv03_zero a w
 · exact refdiv03_main a b w ha hb' h0
theorem refmod03_any (a b:Int)(w:World)(ha:In64 a)(hb':In64 b):Ca 302 #[I a,I b] w fun e w'=>e=.returned (I (modK a b))/\Below w.heap.size w w':=by
 have hd:=fun w=>pV a b w ha hb'
 have hm:=fun w=>pt (divK a b) b w (mi ha) hb'
 have hn:=fun w=>lC (wrap64 (divK a b * b)) w (iA _)
 have ha':=fun w=>jz a (wrap64 (-(wrap64 (divK a b * b)))) w ha (iA _)
 rw[show wrap64 (a+wrap64 (-(wrap64 (divK a b * b))))=modK a b from by unfold modK;generalize divK a b * b=x;unfold wrap64;omega] at ha';generalize modK a b=R at *;generalize wrap64 (-(wrap64 (divK a b * b)))=x3 at *;generalize wrap64 (divK a b * b)=x2 at *;generalize divK a b=x1 at *;clear ha hb';go_enter Tryz.func302,Tryz.ntmps302;go_wp2_with (first | ((go_at_call 301;go_call (hd _) as e w1 ⟨rfl,hb1⟩);have s1:=hb1.size) | ((go_at_call 300;go_call (hm _) as e w2 ⟨rfl,hb2⟩);have b2:=hb1.trans (hb2.mono s1);have s2:=b2.size) | ((go_at_call 297;go_call (hn _) as e w3 ⟨rfl,hb3⟩);have b3:=b2.trans (hb3.mono s2);have s3:=b3.size) | ((go_at_call 299;go_call (ha' _) as e w4 ⟨rfl,hb4⟩);have b4:=b3.trans (hb4.mono s3)) | fail);go_ret;exact⟨rfl,b4⟩
theorem pW (b:Bool)(w:World):Ca 298 #[.bool b] w fun e w'=>e=.returned (I (dm b))/\w=w':=by
 cases b <;>
 (go_enter Tryz.func298,Tryz.ntmps298
  go_wp2;go_ret;exact⟨rfl,rfl⟩)
theorem refone03_any (op a:Int)(w:World)(ho:op=5\/op=6)(ha:In64 a):Ca 265 #[I op,I a] w fun e w'=>e=.returned (.tuple #[I (oneK op a),.bool true])/\Below w.heap.size w w':=by
 rcases ho with rfl | rfl
 · have hn:=fun w=>lC a w ha
   rw[show oneK 5 a=wrap64 (-a) from rfl];generalize wrap64 (-a)=R at *;go_enter Tryz.func265,Tryz.ntmps265;go_wp2_with (first | (go_at_call 297;go_call (hn _) as e w1 ⟨rfl,hb1⟩) | fail);go_ret2;exact⟨rfl,hb1⟩
 · have hf:=fun w=>pW (a == 0) w
   rw[show oneK 6 a=dm (a == 0) from rfl];generalize dm (a == 0)=R at *;go_enter Tryz.func265,Tryz.ntmps265;go_wp2_with (first | (go_at_call 298;go_call (hf _) as e w1 ⟨rfl,rfl⟩) | fail);go_ret2;exact⟨rfl,Below.refl _ _⟩
theorem op_7_20 {op:Int}(h:7<=op/\op<=20):op=7\/op=8\/op=9\/op=10\/op=11\/op=12\/op=13\/op=14\/op=15\/op=16\/op=17\/op=18\/op=19\/op=20:=aS
theorem doK_8 (a b:Int):wrap64 (a+wrap64 (-b))=wrap64 (a - b):=by unfold wrap64;omega
theorem refdo03_any (op a b:Int)(w:World)(ho:7<=op/\op<=20)(ha:In64 a)(hb':In64 b):Ca 266 #[I op,I a,I b] w fun e w'=>e=.returned (.tuple #[I (doK op a b),.bool true])/\Below w.heap.size w w':=by
 have c7:=fun w=>jz a b w ha hb'
 have c8:=fun w=>lC b w hb'
 have c8':=fun w=>jz a (wrap64 (-b)) w ha (iA _)
 rw[doK_8] at c8';have c9:=fun w=>pt a b w ha hb'
 have c10:=fun w=>pV a b w ha hb'
 have c11:=fun w=>refmod03_any a b w ha hb'
 have hf:=pW;rcases op_7_20 ho with rfl | rfl | rfl | rfl | rfl | rfl | rfl | rfl | rfl | rfl | rfl | rfl | rfl | rfl
 · rw[show doK 7 a b=wrap64 (a+b) from rfl];generalize wrap64 (a+b)=R at *;go_enter Tryz.func266,Tryz.ntmps266;go_wp2_with (first | (go_at_call 299;go_call (c7 _) as e w1 ⟨rfl,hb1⟩) | fail);go_ret2;exact⟨rfl,hb1⟩
 · rw[show doK 8 a b=wrap64 (a - b) from rfl];generalize wrap64 (a - b)=R at *;generalize wrap64 (-b)=b2 at *;go_enter Tryz.func266,Tryz.ntmps266;go_wp2_with (first | ((go_at_call 297;go_call (c8 _) as e w1 ⟨rfl,hb1⟩);have s1:=hb1.size) | (go_at_call 299;go_call (c8' _) as e w2 ⟨rfl,hb2⟩) | fail);go_ret2;exact⟨rfl,hb1.trans (hb2.mono s1)⟩
 · rw[show doK 9 a b=wrap64 (a * b) from rfl];generalize wrap64 (a * b)=R at *;go_enter Tryz.func266,Tryz.ntmps266;go_wp2_with (first | (go_at_call 300;go_call (c9 _) as e w1 ⟨rfl,hb1⟩) | fail);go_ret2;exact⟨rfl,hb1⟩
 · rw[show doK 10 a b=divK a b from rfl];generalize divK a b=R at *;go_enter Tryz.func266,Tryz.ntmps266;go_wp2_with (first | (go_at_call 301;go_call (c10 _) as e w1 ⟨rfl,hb1⟩) | fail);go_ret2;exact⟨rfl,hb1⟩
 · rw[show doK 11 a b=modK a b from rfl];generalize modK a b=R at *;go_enter Tryz.func266,Tryz.ntmps266;go_wp2_with (first | (go_at_call 302;go_call (c11 _) as e w1 ⟨rfl,hb1⟩) | fail);go_ret2;exact⟨rfl,hb1⟩
 all_goals
  clear c7 c8 c8' c9 c10 c11
 · rw[show doK 12 a b=dm (a == b) from rfl];go_enter Tryz.func266,Tryz.ntmps266;go_wp2_with (first | (go_at_call 298;go_call (hf _ _) as e w1 ⟨rfl,rfl⟩) | fail);go_ret2;exact⟨rfl,Below.refl _ _⟩
 · rw[show doK 13 a b=dm (a != b) from rfl];go_enter Tryz.func266,Tryz.ntmps266;go_wp2_with (first | (go_at_call 298;go_call (hf _ _) as e w1 ⟨rfl,rfl⟩) | fail);go_ret2;exact⟨rfl,Below.refl _ _⟩
 · rw[show doK 14 a b=dm (decide (a<b)) from rfl];go_enter Tryz.func266,Tryz.ntmps266;go_wp2_with (first | (go_at_call 298;go_call (hf _ _) as e w1 ⟨rfl,rfl⟩) | fail);go_ret2;exact⟨rfl,Below.refl _ _⟩
 · rw[show doK 15 a b=dm (!decide (b<a)) from by rw[show doK 15 a b=dm (decide (a<=b)) from rfl,<- decide_not];congr 1;exact decide_eq_decide.2 Int.not_lt.symm];go_enter Tryz.func266,Tryz.ntmps266;go_wp2_with (first | (go_at_call 298;go_call (hf _ _) as e w1 ⟨rfl,rfl⟩) | fail);go_ret2;exact⟨rfl,Below.refl _ _⟩
 · rw[show doK 16 a b=dm (decide (b<a)) from rfl];go_enter Tryz.func266,Tryz.ntmps266;go_wp2_with (first | (go_at_call 298;go_call (hf _ _) as e w1 ⟨rfl,rfl⟩) | fail);go_ret2;exact⟨rfl,Below.refl _ _⟩
 · rw[show doK 17 a b=dm (!decide (a<b)) from by rw[show doK 17 a b=dm (decide (b<=a)) from rfl,<- decide_not];congr 1;exact decide_eq_decide.2 Int.not_lt.symm];go_enter Tryz.func266,Tryz.ntmps266;go_wp2_with (first | (go_at_call 298;go_call (hf _ _) as e w1 ⟨rfl,rfl⟩) | fail);go_ret2;exact⟨rfl,Below.refl _ _⟩
 · rw[show doK 18 a b=dm ((a != 0) && (b != 0)) from rfl];have ft:dm true=1:=rfl;have ff:dm false=0:=rfl
   cases hx:(a != 0) <;> cases hy:(b != 0) <;>
   (go_enter Tryz.func266,Tryz.ntmps266
    go_wp2_with (first | (go_at_call 298;go_call (hf _ _) as e w1 ⟨rfl,rfl⟩) | fail);go_ret2;exact⟨rfl,Below.refl _ _⟩)
 · rw[show doK 19 a b=dm ((a != 0) || (b != 0)) from rfl];have ft:dm true=1:=rfl;have ff:dm false=0:=rfl
   cases hx:(a != 0) <;> cases hy:(b != 0) <;>
   (go_enter Tryz.func266,Tryz.ntmps266
    go_wp2_with (first | (go_at_call 298;go_call (hf _ _) as e w1 ⟨rfl,rfl⟩) | fail);go_ret2;exact⟨rfl,Below.refl _ _⟩)
 · rw[show doK 20 a b=dm ((a != 0) != (b != 0)) from rfl];have ft:dm true=1:=rfl;have ff:dm false=0:=rfl
   cases hx:(a != 0) <;> cases hy:(b != 0) <;>
   (go_enter Tryz.func266,Tryz.ntmps266
    go_wp2_with (first | (go_at_call 298;go_call (hf _ _) as e w1 ⟨rfl,rfl⟩) | fail);go_ret2;exact⟨rfl,Below.refl _ _⟩)
