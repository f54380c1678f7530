/- Parts. -/
import Derived.Test.YtmeebofhlilcmaaGreatPr02
set_option linter.unusedVariables false
set_option linter.unusedSimpArgs false
set_option maxRecDepth 100000
set_option maxHeartbeats 0
namespace Go.Proofs.YtmeebofhlilcmaaGreat
open Go.RowKit
section
variable {w w':World} {d gy:Nat} {x:PA} {p:PV} {pace s r:Int} {gp:Option Addr} {N1:Option Addr→Int→World→Prop} {N2:Nat→Int→World→Prop} {N3:Nat→Option Addr→Int→World→Prop}
theorem kQ (Y:Blk w gy 209 (plC d x p pace gp)):Ca 46 #[.pointer (some ⟨gy,0,none⟩)] w fun e w'=>e=.returned (.pointer gp)/\w=w':=by
 have y6:w.cell? ⟨gy,6,none⟩=some (.pointer gp):=Y.c6;clear Y;go_enter Tryz.func46,Tryz.ntmps46;go_wp2;go_ret;exact⟨rfl,rfl⟩
theorem plnew_any
 (h1:∀ W,Below w.heap.size w W->Ca 28 #[I s,I r] W fun e w1=>dW W w1/\∃ P z,e=.returned (.tuple #[.pointer P,I z])/\N1 P z w1)
 (hd:∀ P w1,N1 P 0 w1->∃ d,P=some ⟨d,0,none⟩)
 (h2:∀ d W,N1 (some ⟨d,0,none⟩) 0 W->Ca 27 #[.pointer (some ⟨d,0,none⟩),.agg #[.slice x.A1 x.n1 x.c1,.slice x.A2 x.n2 x.c2,I p.regs,.slice x.A3 x.n3 x.c3,.slice x.A4 x.n4 x.c4]] W fun e w1=>dW W w1/\∃ z,e=.returned (I z)/\N2 d z w1)
 (h3:∀ d W,N2 d 0 W->Ca 25 #[.pointer (some ⟨d,0,none⟩),.agg #[.slice x.A1 x.n1 x.c1,.slice x.A2 x.n2 x.c2,I p.regs,.slice x.A3 x.n3 x.c3,.slice x.A4 x.n4 x.c4],I pace] W fun e w1=>dW W w1/\∃ P z,e=.returned (.tuple #[.pointer P,I z])/\N3 d P z w1) :
 Ca 45 #[.agg #[.slice x.A1 x.n1 x.c1,.slice x.A2 x.n2 x.c2,I p.regs,.slice x.A3 x.n3 x.c3,.slice x.A4 x.n4 x.c4],.agg #[I s,I r,I pace]] w fun e w'=>
  (∃ z,z≠0/\e=.returned (.tuple #[.pointer none,I z])/\((∃ P,N1 P z w')\/(∃ d,N2 d z w')\/∃ d P,N3 d P z w')) \/
  (∃ d P W,N3 d P 0 W/\e=.returned (.tuple #[.pointer (some ⟨W.heap.size,0,none⟩),I 0])/\w'=W.alloc (.cells (plC d x p pace P).toArray 209)):=by
 have H1:=aT h1;have H2:=aT h2;have H3:=aT h3;have HD:=aT hd;have F0:∀ W,W=(w.alloc (.cells #[.slice x.A1 x.n1 x.c1,.slice x.A2 x.n2 x.c2,I p.regs,.slice x.A3 x.n3 x.c3,.slice x.A4 x.n4 x.c4] 26)).alloc (.cells #[I s,I r,I pace] 83)->Below w.heap.size w W/\Blk W w.heap.size 26 [.slice x.A1 x.n1 x.c1,.slice x.A2 x.n2 x.c2,I p.regs,.slice x.A3 x.n3 x.c3,.slice x.A4 x.n4 x.c4]/\Blk W (w.heap.size+1) 83 [I s,I r,I pace]:=by
  rintro W rfl;exact⟨bc,bI,bI⟩
 clear h1 h2 h3 hd;go_enter Tryz.func45,Tryz.ntmps45;go_upto_region 1 with fail;refine eG (fun W=>Below w.heap.size w W/\Blk W w.heap.size 26 [.slice x.A1 x.n1 x.c1,.slice x.A2 x.n2 x.c2,I p.regs,.slice x.A3 x.n3 x.c3,.slice x.A4 x.n4 x.c4]/\Blk W (w.heap.size+1) 83 [I s,I r,I pace]) (F0 _ rfl) ?_;clear F0;rintro w1 ⟨hb1,he,hr⟩;have E1:=aT he;have R1:=aT hr;have c1:=H1.out w1 hb1;clear he hr hb1;have z0:=R1.out.c0;have z1:=R1.out.c1;go_upto_region 2 with (first | ((go_at_call 28;(with_reducible refine (c1).mono ?_);rintro e w2 ⟨s2,P,z,rfl,k2⟩);have K2:=aT k2;have E2:=aT (s2 _ _ _ (.inr (.inr (.inr (.inr rfl)))) E1.out);have R2:=aT (s2 _ _ _ (.inr (.inr (.inr (.inl rfl)))) R1.out);clear s2 k2 c1 z0 z1) | fail);clear E1 R1
 by_cases hz:z=0
 rotate_left 1
 · have hz2:(z != 0)=true:=by rw[ag];exact hz
   have hz3:=aT hz;clear hz;go_wp2_with fail;go_ret2;exact .inl ⟨z,hz3.out,rfl,.inl ⟨P,K2.out⟩⟩
 subst hz;obtain⟨d,rfl⟩:=HD.out P w2 K2.out;have c2:=H2.out d w2 K2.out;have z0:=E2.out.c0;have z1:=E2.out.c1;have z2:=E2.out.c2;have z3:=E2.out.c3;have z4:=E2.out.c4;go_upto_region 5 with (first | ((go_at_call 27;(with_reducible refine (c2).mono ?_);rintro e w3 ⟨s3,z,rfl,k3⟩);have K3:=aT k3;have E3:=aT (s3 _ _ _ (.inr (.inr (.inr (.inr rfl)))) E2.out);have R3:=aT (s3 _ _ _ (.inr (.inr (.inr (.inl rfl)))) R2.out);clear s3 k3 c2 z0 z1 z2 z3 z4) | fail);clear E2 R2 K2
 by_cases hz:z=0
 rotate_left 1
 · have hz2:(z != 0)=true:=by rw[ag];exact hz
   have hz3:=aT hz;clear hz;go_wp2_with fail;go_ret2;exact .inl ⟨z,hz3.out,rfl,.inr (.inl ⟨d,K3.out⟩)⟩
 subst hz;have c3:=H3.out d w3 K3.out;have z0:=E3.out.c0;have z1:=E3.out.c1;have z2:=E3.out.c2;have z3:=E3.out.c3;have z4:=E3.out.c4;have r2:=R3.out.c2;go_upto_region 8 with (first | ((go_at_call 25;(with_reducible refine (c3).mono ?_);rintro e w4 ⟨s4,P,z,rfl,k4⟩);have K4:=aT k4;have E4:=aT (s4 _ _ _ (.inr (.inr (.inr (.inr rfl)))) E3.out);have R4:=aT (s4 _ _ _ (.inr (.inr (.inr (.inl rfl)))) R3.out);clear s4 k4 c3 z0 z1 z2 z3 z4 r2) | fail);clear E3 R3 K3
 by_cases hz:z=0
 rotate_left 1
 · have hz2:(z != 0)=true:=by rw[ag];exact hz
   have hz3:=aT hz;clear hz;go_wp2_with fail;go_ret2;exact .inl ⟨z,hz3.out,rfl,.inr (.inr ⟨d,P,K4.out⟩)⟩
 subst hz;have z0:=E4.out.c0;have z1:=E4.out.c1;have z2:=E4.out.c2;have z3:=E4.out.c3;have z4:=E4.out.c4;have r2:=R4.out.c2;go_wp2_with fail;go_ret2;exact .inr ⟨d,P,w4,K4.out,rfl,rfl⟩
end
theorem pn (op:Int)(w:World):Ca 230 #[I op] w fun e w'=>e=.returned (I (ma op))/\w=w':=by
 unfold ma;rcases lv op with h | h | h | h | h
 · rw[cls_1 h];rcases h with rfl | rfl | rfl | h
   case inr.inr.inr=>
    have b1:(op == 1)=false:=by rw[af];omega
    have b2:(op == 2)=false:=by rw[af];omega
    have b3:(op == 21)=false:=by rw[af];omega
    have h1:=h.1;have h2:=h.2;go_enter Tryz.func230,Tryz.ntmps230;go_wp2;go_ret;exact⟨rfl,rfl⟩
   all_goals
    go_enter Tryz.func230,Tryz.ntmps230;go_wp2;go_ret;exact⟨rfl,rfl⟩
 · rw[cls_2 h];rcases h with rfl | rfl | rfl
   all_goals
    go_enter Tryz.func230,Tryz.ntmps230;go_wp2;go_ret;exact⟨rfl,rfl⟩
 · rw[cls_3 h];have b1:(op == 1)=false:=by rw[af];omega
   have b2:(op == 2)=false:=by rw[af];omega
   have b3:(op == 21)=false:=by rw[af];omega
   have b4:(op == 3)=false:=by rw[af];omega
   have b5:(op == 5)=false:=by rw[af];omega
   have b6:(op == 6)=false:=by rw[af];omega
   have h1:=h.1;have h2:=h.2;have h3:¬ 28<=op:=aS;go_enter Tryz.func230,Tryz.ntmps230;go_wp2;go_ret;exact⟨rfl,rfl⟩
 · rw[cls_4 h];subst h;go_enter Tryz.func230,Tryz.ntmps230;go_wp2;go_ret;exact⟨rfl,rfl⟩
 · rw[cls_0 h];have b1:(op == 1)=false:=by rw[af];omega
   have b2:(op == 2)=false:=by rw[af];omega
   have b3:(op == 21)=false:=by rw[af];omega
   have b4:(op == 3)=false:=by rw[af];omega
   have b5:(op == 5)=false:=by rw[af];omega
   have b6:(op == 6)=false:=by rw[af];omega
   have b7:(op == 27)=false:=by rw[af];omega
   rcases h with h | h | h | h
   · have h1:¬ 28<=op:=aS;have h2:¬ 7<=op:=aS;go_enter Tryz.func230,Tryz.ntmps230;go_wp2;go_ret;exact⟨rfl,rfl⟩
   · subst h;go_enter Tryz.func230,Tryz.ntmps230;go_wp2;go_ret;exact⟨rfl,rfl⟩
   · have h1:¬ 28<=op:=aS;have h2:7<=op:=aS;have h3:¬ op<=20:=aS;go_enter Tryz.func230,Tryz.ntmps230;go_wp2;go_ret;exact⟨rfl,rfl⟩
   · have h1:28<=op:=aS;have h4:¬ op<=32:=aS;have h2:7<=op:=aS;have h3:¬ op<=20:=aS;go_enter Tryz.func230,Tryz.ntmps230;go_wp2;go_ret;exact⟨rfl,rfl⟩
theorem has_any (op:Int)(w:World):Ca 173 #[I op] w fun e w'=>e=.returned (.tuple #[I (hasN op),.bool (hasK op)])/\w=w':=by
 unfold hasN hasK;rcases lv op with h | h | h | h | h
 · rw[cls_1 h];rcases h with rfl | rfl | rfl | h
   case inr.inr.inr=>
    have b1:(op == 1)=false:=by rw[af];omega
    have b2:(op == 2)=false:=by rw[af];omega
    have b3:(op == 21)=false:=by rw[af];omega
    have h1:=h.1;have h2:=h.2;go_enter Tryz.func173,Tryz.ntmps173;go_wp2;go_ret2;exact⟨rfl,rfl⟩
   all_goals
    go_enter Tryz.func173,Tryz.ntmps173;go_wp2;go_ret2;exact⟨rfl,rfl⟩
 · rw[cls_2 h];rcases h with rfl | rfl | rfl
   all_goals
    go_enter Tryz.func173,Tryz.ntmps173;go_wp2;go_ret2;exact⟨rfl,rfl⟩
 · rw[cls_3 h];have b1:(op == 1)=false:=by rw[af];omega
   have b2:(op == 2)=false:=by rw[af];omega
   have b3:(op == 21)=false:=by rw[af];omega
   have b4:(op == 3)=false:=by rw[af];omega
   have b5:(op == 5)=false:=by rw[af];omega
   have b6:(op == 6)=false:=by rw[af];omega
   have h1:=h.1;have h2:=h.2;have h3:¬ 28<=op:=aS;go_enter Tryz.func173,Tryz.ntmps173;go_wp2;go_ret2;exact⟨rfl,rfl⟩
 · rw[cls_4 h];subst h;go_enter Tryz.func173,Tryz.ntmps173;go_wp2;go_ret2;exact⟨rfl,rfl⟩
 · rw[cls_0 h];have b1:(op == 1)=false:=by rw[af];omega
   have b2:(op == 2)=false:=by rw[af];omega
   have b3:(op == 21)=false:=by rw[af];omega
   have b4:(op == 3)=false:=by rw[af];omega
   have b5:(op == 5)=false:=by rw[af];omega
   have b6:(op == 6)=false:=by rw[af];omega
   have b7:(op == 27)=false:=by rw[af];omega
   rcases h with h | h | h | h
   · have h1:¬ 28<=op:=aS;have h2:¬ 7<=op:=aS;go_enter Tryz.func173,Tryz.ntmps173;go_wp2;go_ret2;exact⟨rfl,rfl⟩
   · subst h;go_enter Tryz.func173,Tryz.ntmps173;go_wp2;go_ret2;exact⟨rfl,rfl⟩
   · have h1:¬ 28<=op:=aS;have h2:7<=op:=aS;have h3:¬ op<=20:=aS;go_enter Tryz.func173,Tryz.ntmps173;go_wp2;go_ret2;exact⟨rfl,rfl⟩
   · have h1:28<=op:=aS;have h4:¬ op<=32:=aS;have h2:7<=op:=aS;have h3:¬ op<=20:=aS;go_enter Tryz.func173,Tryz.ntmps173;go_wp2;go_ret2;exact⟨rfl,rfl⟩
theorem value_any (t n:Int)(w:World):Ca 222 #[I t,I n] w fun e w'=>e=.returned (.bool (fN t n))/\w=w':=by
 unfold fN
 by_cases h1:t=1
 · subst h1;go_enter Tryz.func222,Tryz.ntmps222;go_wp2;go_ret;exact⟨rfl,rfl⟩
 · have b1:(t == 1)=false:=by rw[af];exact h1
   rw[b1]
   by_cases h2:t=2
   · subst h2;clear h1
     by_cases h3:n=0
     · subst h3;go_enter Tryz.func222,Tryz.ntmps222;go_wp2;go_ret;exact⟨rfl,rfl⟩
     · have b3:(n == 0)=false:=by rw[af];exact h3
       rw[b3];clear h3;go_enter Tryz.func222,Tryz.ntmps222;go_wp2;go_ret;exact⟨rfl,rfl⟩
   · have b2:(t == 2)=false:=by rw[af];exact h2
     rw[b2];clear h1 h2;go_enter Tryz.func222,Tryz.ntmps222;go_wp2;go_ret;exact⟨rfl,rfl⟩
theorem refvalue_any (t n:Int)(w:World):Ca 172 #[I t,I n] w fun e w'=>e=.returned (.bool (fN t n))/\w=w':=by
 unfold fN
 by_cases h1:t=1
 · subst h1;go_enter Tryz.func172,Tryz.ntmps172;go_wp2;go_ret;exact⟨rfl,rfl⟩
 · have b1:(t == 1)=false:=by rw[af];exact h1
   rw[b1]
   by_cases h2:t=2
   · subst h2;clear h1
     by_cases h3:n=0
     · subst h3;go_enter Tryz.func172,Tryz.ntmps172;go_wp2;go_ret;exact⟨rfl,rfl⟩
     · have b3:(n == 0)=false:=by rw[af];exact h3
       rw[b3];clear h3;go_enter Tryz.func172,Tryz.ntmps172;go_wp2;go_ret;exact⟨rfl,rfl⟩
   · have b2:(t == 2)=false:=by rw[af];exact h2
     rw[b2];clear h1 h2;go_enter Tryz.func172,Tryz.ntmps172;go_wp2;go_ret;exact⟨rfl,rfl⟩
theorem instr_any (op a b c k:Int)(w:World):Ca 223 #[.agg #[I op,I a,I b,I c,I k]] w fun e w'=>e=.returned (.bool (insB ⟨op,a,b,c,k⟩))/\Below w.heap.size w w':=by
 have hf:=fun w=>pn op w
 unfold ma at hf;have hle:=cls_le op;generalize hI:insB ⟨op,a,b,c,k⟩=z;have hI2:z=true ↔ (cls op≠0/\0<=a/\0<=b/\0<=c/\(cls op=1->b=0)/\(cls op<=2->c=0)/\(cls op=2\/cls op=3->k=0)):=by
  rw[<- hI];unfold insB;rw[decide_eq_true_iff];rfl
 clear hI;generalize cls op=q at *;have e92:bits .and .i64 9 2=0:=by decide
 have e94:bits .and .i64 9 4=0:=by decide
 have e98:bits .and .i64 9 8=8:=by decide
 have e32:bits .and .i64 3 2=2:=by decide
 have e34:bits .and .i64 3 4=0:=by decide
 have e38:bits .and .i64 3 8=0:=by decide
 have e72:bits .and .i64 7 2=2:=by decide
 have e74:bits .and .i64 7 4=4:=by decide
 have e78:bits .and .i64 7 8=0:=by decide
 have e152:bits .and .i64 15 2=2:=by decide
 have e154:bits .and .i64 15 4=4:=by decide
 have e158:bits .and .i64 15 8=8:=by decide
 rcases (show q=0\/q=1\/q=2\/q=3\/q=4 by omega) with rfl | rfl | rfl | rfl | rfl
 · have hf':∀ w,Ca 230 #[I op] w fun e w'=>e=.returned (I 0)/\w=w':=hf
   cases z with
   | true=>exact absurd rfl (hI2.1 rfl).1
   | false=>
     clear hI2 hf hle;go_enter Tryz.func223,Tryz.ntmps223;go_wp2_with (go_at_call 230;go_call (hf' _) as e w1 ⟨rfl,rfl⟩);go_ret;exact⟨rfl,bc⟩
 case' inr.inl=>
  have hf':∀ w,Ca 230 #[I op] w fun e w'=>e=.returned (I 9)/\w=w':=hf
  have hcs:(a<0)\/(0<=a/\b<0)\/(0<=a/\0<=b/\c<0)\/(0<=a/\0<b/\0<=c)\/(0<=a/\b=0/\0<c)\/(0<=a/\b=0/\c=0):=aS
 case' inr.inr.inl=>
  have hf':∀ w,Ca 230 #[I op] w fun e w'=>e=.returned (I 3)/\w=w':=hf
  have hcs:(a<0)\/(0<=a/\b<0)\/(0<=a/\0<=b/\c<0)\/(0<=a/\0<=b/\0<c)\/(0<=a/\0<=b/\c=0/\k≠0)\/(0<=a/\0<=b/\c=0/\k=0):=aS
 case' inr.inr.inr.inl=>
  have hf':∀ w,Ca 230 #[I op] w fun e w'=>e=.returned (I 7)/\w=w':=hf
  have hcs:(a<0)\/(0<=a/\b<0)\/(0<=a/\0<=b/\c<0)\/(0<=a/\0<=b/\0<=c/\k≠0)\/(0<=a/\0<=b/\0<=c/\k=0)\/False:=aS
 case' inr.inr.inr.inr=>
  have hf':∀ w,Ca 230 #[I op] w fun e w'=>e=.returned (I 15)/\w=w':=hf
  have hcs:(a<0)\/(0<=a/\b<0)\/(0<=a/\0<=b/\c<0)\/(0<=a/\0<=b/\0<=c)\/False\/False:=aS
 all_goals
  clear hf hle;rcases hcs with hcs | hcs | hcs | hcs | hcs | hcs
  all_goals
   cases z
   all_goals
    first
    | (exfalso;have h9:=hI2.1 rfl;omega)
    | (exfalso;apply Bool.false_ne_true;apply hI2.2;refine⟨?_,?_,?_,?_,?_,?_,?_⟩ <;> (intros;omega))
    | (exfalso;exact hcs)
    | skip
 all_goals
  clear hI2
  first
  | (obtain⟨h1,rfl,rfl⟩:=hcs)
  | (obtain⟨h1,h2,rfl,rfl⟩:=hcs)
  | (obtain⟨h1,h2,h3,rfl⟩:=hcs)
  | (obtain⟨h1,rfl,h3⟩:=hcs;(have b3:(c == 0)=false:=by rw[af];omega))
  | (obtain⟨h1,h2,rfl,h4⟩:=hcs;(have b4:(k == 0)=false:=by rw[af];omega);clear h4)
  | (obtain⟨h1,h2,h3,h4⟩:=hcs;(have b4:(k == 0)=false:=by rw[af];omega);clear h4)
  | (obtain⟨h1,h2,h3⟩:=hcs;try (have b2:(b == 0)=false:=by rw[af];omega);try (have b3:(c == 0)=false:=by rw[af];omega))
  | (obtain⟨h1,h2⟩:=hcs)
  | skip
 all_goals
  go_enter Tryz.func223,Tryz.ntmps223;go_wp2_with (go_at_call 230;go_call (hf' _) as e w1 ⟨rfl,rfl⟩);go_ret;exact⟨rfl,bc⟩
theorem jE (A:Option Addr)(n c:Nat)(l:List Int)(w:World)(hl:RI w A n l)(hn:n<=maxLen) :
 Ca 150 #[.slice A n c] w fun e w'=>e=.returned (.bool (da l))/\w=w':=by
 unfold maxLen at hn;have hlen:=aT hl.1;generalize hz:da l=z;have Hz:=aT hz;clear hz;go_enter Tryz.func150,Tryz.ntmps150;go_wp2;go_loop [7] (fun i=>∃ k:Nat,k<=n/\i=I (k:Nat)/\Hid (∀ i,i<k->tyB (bj l i)=true)) (fun i=>n - (intOf i).toNat)
 case atStart=>exact⟨0,aS,rfl,fun i hi=>absurd hi aS⟩
 case round=>
  obtain⟨k,hk,rfl,hall⟩:=hrel
  by_cases hlt:k<n
  · obtain⟨b,o,rfl,_,hc⟩:=hl.at_ hlt;have hne:¬ (n:Int)<=(k:Int):=aS
    by_cases ht:tyB (bj l k)=true
    · have H:=aT ht;have hall':Hid (∀ i,i<k+1->tyB (bj l i)=true):=fun i hi=>by
       rcases ay i k with h | h
       · exact hall.out i h
       · rw[show i=k from by omega];exact H.out
      rcases lu.1 ht with h1 | h1
      all_goals
       rw[h1] at hc;clear h1 H ht hall;go_wp2;go_round
       case rel=>exact⟨k+1,aS,by go_num,hall'⟩
       case measure=>simp[intOf];omega
    · have H:=aT ht;have h1:bj l k≠1/\bj l k≠2:=by
       constructor <;> intro e <;> exact ht (lu.2 aS)
      have b1:(bj l k != 1)=true:=by rw[ag];exact h1.1
      have b2:(bj l k != 2)=true:=by rw[ag];exact h1.2
      clear h1 ht;go_wp2;go_ret;refine⟨df ?_,rfl⟩;rw[<- Hz.out];unfold da;rw[nA (k:=k) (by rw[hlen.out];exact hlt) (by simpa using H.out)]
      rfl
  · have hkn:Hid (k=n):=show k=n by omega
    have hge:(n:Int)<=(k:Int):=aS;have hz2:Hid (z=(decide (1<=n) && decide (n<=8))):=by
     show z=_
     rw[<- Hz.out];unfold da;rw[je.2 (fun i hi=>hall.out i (by rw[hlen.out] at hi;rw[hkn.out];exact hi)),hlen.out]
     rfl
    rcases (show n=0\/(1<=n/\n<=8)\/8<n by omega) with h0 | ⟨h0,h1⟩ | h0
    · subst h0;go_wp2;go_ret;exact⟨df (by rw[hz2.out];rfl),rfl⟩
    · go_wp2;go_ret;exact⟨df lS,rfl⟩
    · go_wp2;go_ret;exact⟨df lS,rfl⟩
theorem pp (A:Option Addr)(n c:Nat)(l:List Int)(w:World)(hl:RI w A n l)(hn:n<=maxLen) :
 Ca 121 #[.slice A n c] w fun e w'=>e=.returned (.bool (da l))/\w=w':=by
 unfold maxLen at hn;have hlen:=aT hl.1;generalize hz:da l=z;have Hz:=aT hz;clear hz;go_enter Tryz.func121,Tryz.ntmps121;go_wp2;go_loop [3] (fun i=>∃ k:Nat,k<=n/\i=I (k:Nat)/\Hid (∀ i,i<k->tyB (bj l i)=true)) (fun i=>n - (intOf i).toNat)
 case atStart=>exact⟨0,aS,rfl,fun i hi=>absurd hi aS⟩
 case round=>
  obtain⟨k,hk,rfl,hall⟩:=hrel
  by_cases hlt:k<n
  · obtain⟨b,o,rfl,_,hc⟩:=hl.at_ hlt;have hne:¬ (n:Int)<=(k:Int):=aS
    by_cases ht:tyB (bj l k)=true
    · have H:=aT ht;have hall':Hid (∀ i,i<k+1->tyB (bj l i)=true):=fun i hi=>by
       rcases ay i k with h | h
       · exact hall.out i h
       · rw[show i=k from by omega];exact H.out
      rcases lu.1 ht with h1 | h1
      all_goals
       rw[h1] at hc;clear h1 H ht hall;go_wp2;go_round
       case rel=>exact⟨k+1,aS,by go_num,hall'⟩
       case measure=>simp[intOf];omega
    · have H:=aT ht;have h1:bj l k≠1/\bj l k≠2:=by
       constructor <;> intro e <;> exact ht (lu.2 aS)
      have b1:(bj l k != 1)=true:=by rw[ag];exact h1.1
      have b2:(bj l k != 2)=true:=by rw[ag];exact h1.2
      clear h1 ht;go_wp2;go_ret;refine⟨df ?_,rfl⟩;rw[<- Hz.out];unfold da;rw[nA (k:=k) (by rw[hlen.out];exact hlt) (by simpa using H.out)]
      rfl
  · have hkn:Hid (k=n):=show k=n by omega
    have hge:(n:Int)<=(k:Int):=aS;have hz2:Hid (z=(decide (1<=n) && decide (n<=8))):=by
     show z=_
     rw[<- Hz.out];unfold da;rw[je.2 (fun i hi=>hall.out i (by rw[hlen.out] at hi;rw[hkn.out];exact hi)),hlen.out]
     rfl
    rcases (show n=0\/(1<=n/\n<=8)\/8<n by omega) with h0 | ⟨h0,h1⟩ | h0
    · subst h0;go_wp2;go_ret;exact⟨df (by rw[hz2.out];rfl),rfl⟩
    · go_wp2;go_ret;exact⟨df lS,rfl⟩
    · go_wp2;go_ret;exact⟨df lS,rfl⟩
theorem mb (v:Int)(w:World):Ca 241 #[I v] w fun e w'=>e=.returned (.bool (v == 0 || v == 1))/\w=w':=by
 by_cases h:v=0
 · subst h;go_enter Tryz.func241,Tryz.ntmps241;go_wp2;go_ret;exact⟨rfl,rfl⟩
 · have h1:(v == 0)=false:=by rw[af];exact h
   rw[h1];clear h;go_enter Tryz.func241,Tryz.ntmps241;go_wp2;go_ret;exact⟨rfl,rfl⟩
theorem jS (A B:Option Addr)(n m c d:Nat)(ts l:List Int)(w:World)(ht:RI w A n ts)(hl:RI w B m l)(hn:n<=maxLen)(hm:m<=maxLen) :
 Ca 216 #[.slice A n c,.slice B m d] w fun e w'=>e=.returned (.bool (cx ts l))/\w=w':=by
 have hright:=jE A n c ts w ht hn;unfold maxLen at hn hm;have hlen:=aT ht.1;have hlen2:=aT hl.1;generalize hz:cx ts l=z;have Hz:=aT hz;clear hz
 cases hr:da ts with
 | false=>
   rw[hr] at hright;have hz3:z=false:=by rw[<- Hz.out];unfold cx;rw[hr];rfl
   rw[hz3];clear hz3 hr;go_enter Tryz.func216,Tryz.ntmps216;go_wp2_with (go_at_call 150;go_call (hright) as e w' ⟨rfl,rfl⟩);go_ret;exact⟨rfl,rfl⟩
 | true=>
   rw[hr] at hright;have Hr:=aT hr;clear hr
   by_cases hnm:m=n
   · have Hnm:=aT hnm;subst hnm;have hnn:(((m:Nat):Int) != (m:Int))=false:=by simp
     go_enter Tryz.func216,Tryz.ntmps216;go_wp2_with (go_at_call 150;go_call (hright) as e w' ⟨rfl,rfl⟩);go_loop [19] (fun i=>∃ k:Nat,k<=m/\i=I (k:Nat)/\Hid (∀ i,i<k->okAt (bj ts i) (bj l i)=true)) (fun i=>m - (intOf i).toNat)
     case atStart=>exact⟨0,aS,rfl,fun i hi=>absurd hi aS⟩
     case round=>
      obtain⟨k,hk,rfl,hall⟩:=hrel
      by_cases hlt:k<m
      · obtain⟨b,o,rfl,_,hc⟩:=ht.at_ hlt;obtain⟨b2,o2,rfl,_,hc2⟩:=hl.at_ hlt;have hne:¬ (m:Int)<=(k:Int):=aS
        by_cases hok:okAt (bj ts k) (bj l k)=true
        · have hall':Hid (∀ i,i<k+1->okAt (bj ts i) (bj l i)=true):=fun i hi=>by
           rcases ay i k with h | h
           · exact hall.out i h
           · rw[show i=k from by omega];exact hok
          have h3:=jR.1 hok;clear hok hall
          by_cases h2:bj ts k=2
          · have h4:=h3 h2;rw[h2] at hc;have h5:Hid ((bj l k == 0 || bj l k == 1)=true):=by
             show _=_
             rcases h4 with e | e <;> rw[e] <;> rfl
            clear h3 h4 h2;generalize bj l k=v at *;go_wp2_with (go_at_call 241;go_call (mb _ _) as e w' ⟨rfl,rfl⟩;rw[h5.out]);go_round
            case rel=>exact⟨k+1,aS,by go_num,hall'⟩
            case measure=>simp[intOf];omega
          · have b2:(bj ts k == 2)=false:=by rw[af];exact h2
            clear h2 h3;generalize bj ts k=v at *;go_wp2;go_round
            case rel=>exact⟨k+1,aS,by go_num,hall'⟩
            case measure=>simp[intOf];omega
        · have h3:=nB.1 (by simpa using hok);rw[h3.1] at hc;have h5:Hid ((bj l k == 0 || bj l k == 1)=false):=by
           show _=_
           rw[Bool.or_eq_false_iff,af,af];exact h3.2
          have hz3:Hid (z=false):=by
           show z=false
           rw[<- Hz.out];unfold cx;rw[nA (k:=k) (by rw[hlen.out];exact hlt) (by simpa using hok)];simp
          clear h3 hok;generalize bj l k=v at *;go_wp2_with (go_at_call 241;go_call (mb _ _) as e w' ⟨rfl,rfl⟩;rw[h5.out]);go_ret;exact⟨df hz3.out.symm,rfl⟩
      · have hge:(m:Int)<=(k:Int):=aS;have hz3:Hid (z=true):=by
         show z=true
         rw[<- Hz.out];unfold cx;rw[je.2 (fun i hi=>hall.out i (by rw[hlen.out] at hi;omega)),Hr.out,hlen.out,hlen2.out];simp
        go_wp2;go_ret;exact⟨df hz3.out.symm,rfl⟩
   · have hne:(((m:Nat):Int) != (n:Int))=true:=by rw[ag];omega
     have hz3:z=false:=by
      rw[<- Hz.out];unfold cx;rw[show decide (l.length=ts.length)=false from aj (by rw[hlen.out,hlen2.out];exact hnm)];simp
     rw[hz3];clear hnm hz3;go_enter Tryz.func216,Tryz.ntmps216;go_wp2_with (go_at_call 150;go_call (hright) as e w' ⟨rfl,rfl⟩);go_ret;exact⟨rfl,rfl⟩
theorem blk5 {w:World}{g:Nat}{t:TypeId}{v0 v1 v2 v3 v4:Value}(h:Blk w g t [v0,v1,v2,v3,v4]):w.cell? ⟨g,0,none⟩=some v0/\w.cell? ⟨g,1,none⟩=some v1/\w.cell? ⟨g,2,none⟩=some v2/\w.cell? ⟨g,3,none⟩=some v3/\w.cell? ⟨g,4,none⟩=some v4 :=
 ⟨h.cell 0,h.cell 1,h.cell 2,h.cell 3,h.cell 4⟩
theorem jT (x:PA)(p:PV)(w:World)(h:cC w x p) :
 Ca 153 #[.agg #[.slice x.A1 x.n1 x.c1,.slice x.A2 x.n2 x.c2,I p.regs,.slice x.A3 x.n3 x.c3,.slice x.A4 x.n4 x.c4]] w fun e w'=>e=.returned (.bool (mayB p))/\Below w.heap.size w w':=by
 obtain⟨A1,n1,c1,A2,n2,c2,A3,n3,c3,A4,n4,c4⟩:=x;obtain⟨ins,outs,regs,cells,code⟩:=p;obtain⟨r1,r2,r3,r4,k1,k2,k3,k4⟩:=h;simp only at r1 r2 r3 r4 k1 k2 k3 k4 ⊢;have hr1:=fun w h=>jE A1 n1 c1 ins w h aS
 have hr2:=fun w h=>jE A2 n2 c2 outs w h aS
 have e3:=r3.1;have e4:=r4.1;generalize hz:mayB ⟨ins,outs,regs,cells,code⟩=z;have hI:=@dV ⟨ins,outs,regs,cells,code⟩;rw[hz] at hI;simp only[e3,e4] at hI;have HI:=aT hI;clear hz hI e3 e4;have m3:n3<=9223372036854775807:=by have:=k3.1;have:=k3.2;unfold maxLen at this;omega
 have m4:n4<=9223372036854775807:=by have:=k4.1;have:=k4.2;unfold maxLen at this;omega
 clear k1 k2 k3 k4;go_enter Tryz.func153,Tryz.ntmps153;go_wp2;go_loopw [10] (fun i wr=>∃ k:Nat,k<=n3/\i=I (k:Nat)/\Hid (∀ i,i<k->fN (db cells i).1 (db cells i).2=true)/\Below w.heap.size w wr/\w.heap.size<wr.heap.size /\
  Blk wr w.heap.size 26 [.slice A1 n1 c1,.slice A2 n2 c2,I regs,.slice A3 n3 c3,.slice A4 n4 c4]) (fun i _=>n3 - (intOf i).toNat)
 case atStart=>exact⟨0,aS,rfl,fun i hi=>absurd hi aS,bc,by simp,bI⟩
 case round=>
  obtain⟨k,hk,rfl,hall,hbel,hsz,hblk⟩:=hrel
  by_cases hlt:k<n3
  · have hne:¬ (n3:Int)<=(k:Int):=aS;obtain⟨b,o,x,rfl,hb,hx,hc⟩:=(r3.below hbel aW).at_ iy aS hlt;have h0:wr.cell? ⟨b,o+k * 2,none⟩=some (I x.1):=hc 0 aS;have h1:wr.cell? ⟨b,o+k * 2+1,none⟩=some (I x.2):=hc 1 aS;have hxk:=aT (jD hx);clear hc hx;obtain⟨t,f⟩:=x;simp only at h0 h1;have hv:=fun w=>value_any t f w
    cases hvb:fN t f with
    | true=>
      have hall':Hid (∀ i,i<k+1->fN (db cells i).1 (db cells i).2=true):=fun i hi=>by
       rcases ay i k with h | h
       · exact hall.out i h
       · rw[show i=k from by omega,hxk.out];exact hvb
      rw[hvb] at hv;clear hvb hall;go_wp2_with (go_at_call 222;go_call (hv _) as e w1 ⟨rfl,rfl⟩);go_roundw
      case rel=>exact⟨k+1,aS,by go_num,hall',bc,by simp;omega,bI⟩
      case measure=>simp[intOf];omega
    | false=>
      have hz:Hid (z=false):=by
       show z=false
       rw[Bool.eq_false_iff];intro hc;have:=(HI.out.1 hc).2.2.2.2.2.2.1 k hlt;rw[hxk.out,hvb] at this
       cases this
      rw[hvb] at hv;clear hvb hall;go_wp2_with (go_at_call 222;go_call (hv _) as e w1 ⟨rfl,rfl⟩);go_ret;exact⟨df hz.out.symm,bc⟩
  · have hkn:k=n3:=aS;subst hkn;have hall3:=hall;clear hall;obtain⟨g0,g1,g2,g3,g4⟩:=blk5 hblk;go_wp2;have hsz0:=hsz;have hbel0:=hbel;clear hsz hbel;go_loopw [24] (fun i w2=>∃ j:Nat,j<=n4/\i=I (j:Nat)/\Hid (∀ i,i<j->insB (aY code i)=true)/\Below w.heap.size w w2/\w.heap.size<w2.heap.size /\
     Blk w2 w.heap.size 26 [.slice A1 n1 c1,.slice A2 n2 c2,I regs,.slice A3 k c3,.slice A4 n4 c4]) (fun i _=>n4 - (intOf i).toNat)
    case atStart=>exact⟨0,aS,rfl,fun i hi=>absurd hi aS,hbel0,hsz0,hblk⟩
    case round=>
     clear g0 g1 g2 g3 g4 hblk;obtain⟨j,hj,rfl,hall,hbel,hsz,hblk⟩:=hrel
     by_cases hlt:j<n4
     · have hne:¬ (n4:Int)<=(j:Int):=aS;obtain⟨b,o,x,rfl,hb,hx,hc⟩:=(r4.below hbel aW).at_ gX aS hlt;obtain⟨op,xa,xb,xc,xk⟩:=x;have h0:wr.cell? ⟨b,o+j * 5,none⟩=some (I op):=hc 0 aS;have h1:wr.cell? ⟨b,o+j * 5+1,none⟩=some (I xa):=hc 1 aS;have h2:wr.cell? ⟨b,o+j * 5+2,none⟩=some (I xb):=hc 2 aS;have h3:wr.cell? ⟨b,o+j * 5+3,none⟩=some (I xc):=hc 3 aS;have h4:wr.cell? ⟨b,o+j * 5+4,none⟩=some (I xk):=hc 4 aS;have hxk:=aT (gY hx);clear hc hx;have hv:=fun w=>instr_any op xa xb xc xk w
       cases hvb:insB ⟨op,xa,xb,xc,xk⟩ with
       | true=>
         have hall':Hid (∀ i,i<j+1->insB (aY code i)=true):=fun i hi=>by
          rcases ay i j with h | h
          · exact hall.out i h
          · rw[show i=j from by omega,hxk.out];exact hvb
         rw[hvb] at hv;clear hvb hall;go_wp2_with ((go_at_call 223;go_call (hv _) as e w5 ⟨rfl,hb5⟩);have hbw5:=bO (a:=w) (B:=w.heap.size) bc hb5 cR;have hs5:=hb5.size;have hk5:=Blk.below (w':=w5) (g:=w.heap.size) (t:=26) (cs:=[.slice A1 n1 c1,.slice A2 n2 c2,I regs,.slice A3 k c3,.slice (some ⟨b,o,none⟩) n4 c4]) bI hb5 cR);simp at hs5;go_roundw
         case rel=>exact⟨j+1,aS,by go_num,hall',hbw5,aS,hk5⟩
         case measure=>simp[intOf];omega
       | false=>
         have hz:Hid (z=false):=by
          show z=false
          rw[Bool.eq_false_iff];intro hc;have:=(HI.out.1 hc).2.2.2.2.2.2.2 j hlt;rw[hxk.out,hvb] at this
          cases this
         rw[hvb] at hv;clear hvb hall;go_wp2_with ((go_at_call 223;go_call (hv _) as e w5 ⟨rfl,hb5⟩);have hbw5:=bO (a:=w) (B:=w.heap.size) bc hb5 cR);go_ret;exact⟨df hz.out.symm,hbw5⟩
     · have hjn:j=n4:=aS;subst hjn;obtain⟨g0,g1,g2,g3,g4⟩:=blk5 hblk;have q1:=r1.below hbel aW;have q2:=r2.below hbel aW;have HZ:Hid (z=true ↔ da ins=true/\da outs=true/\0<=regs/\regs<=1600/\k<=60/\j<=2048):=by
        have h1:=HI.out
        show _ ↔ _
        constructor
        · intro h;obtain⟨a1,a2,a3,a4,a5,a6,_⟩:=h1.1 h;exact⟨a1,a2,a3,a4,a5,a6⟩
        · rintro ⟨a1,a2,a3,a4,a5,a6⟩;exact h1.2 ⟨a1,a2,a3,a4,a5,a6,fun i hi=>hall3.out i hi,fun i hi=>hall.out i hi⟩
       have hne:(j:Int)<=(j:Int):=aS;clear hall hall3 HI r1 r2 r3 r4 hblk hbel0 hsz0;generalize da ins=b1 at *;generalize da outs=b2 at *;have HF:¬ (b1=true/\b2=true/\0<=regs/\regs<=1600/\k<=60/\j<=2048)->Hid (z=false):=fun h=>by
        show z=false
        rw[Bool.eq_false_iff];exact fun hc=>h (HZ.out.1 hc)
       have HF:=aT HF
       cases b1 with
       | false=>
         have hz:=HF.out aZ;clear HF HZ;go_wp2_with (go_at_call 150;go_call (hr1 _ q1) as e w1 ⟨rfl,rfl⟩);go_ret;exact⟨df hz.out.symm,bc⟩
       | true=>
         cases b2 with
         | false=>
           have hz:=HF.out aZ;clear HF HZ;go_wp2_with (first | (go_at_call 150;(with_reducible refine (hr1 _ q1).mono ?_);rintro e w1 ⟨rfl,rfl⟩) | (go_at_call 150;(with_reducible refine (hr2 _ q2).mono ?_);rintro e w1 ⟨rfl,rfl⟩));go_ret;exact⟨df hz.out.symm,bc⟩
         | true=>
           rcases (show regs<0\/(0<=regs/\1600<regs)\/(0<=regs/\regs<=1600/\60<k)\/(0<=regs/\regs<=1600/\k<=60/\2048<j)\/(0<=regs/\regs<=1600/\k<=60/\j<=2048) by omega) with h | h | h | h | h
           case' inr.inr.inr.inr=>
            have hz:Hid (z=true):=HZ.out.2 ⟨rfl,rfl,h⟩;obtain⟨h1,h2,h3,h4⟩:=h
           case' inl=>have hz:=HF.out aS
           case' inr.inl=>
            have hz:=HF.out aS;obtain⟨h1,h2⟩:=h
           case' inr.inr.inl=>
            have hz:=HF.out aS;obtain⟨h1,h2,h3⟩:=h
           case' inr.inr.inr.inl=>
            have hz:=HF.out aS;obtain⟨h1,h2,h3,h4⟩:=h
           all_goals
            clear HF HZ;go_wp2_with (first | (go_at_call 150;(with_reducible refine (hr1 _ q1).mono ?_);rintro e w1 ⟨rfl,rfl⟩) | (go_at_call 150;(with_reducible refine (hr2 _ q2).mono ?_);rintro e w1 ⟨rfl,rfl⟩));go_ret;exact⟨df nh,bc⟩
