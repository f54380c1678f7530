/- Parts. -/
import Derived.Test.YtmeebofhlilcmaaGreatPr03
import Derived.StillTail
set_option linter.unusedVariables false
set_option linter.unusedSimpArgs false
set_option maxRecDepth 100000
set_option maxHeartbeats 0
namespace Go.Proofs.YtmeebofhlilcmaaGreat
variable {op:Int}
open Go.RowKit
structure Ins where
 op:Int
 a:Int
 b:Int
 c:Int
 k:Int
deriving DecidableEq
structure PV where
 ins:List Int
 outs:List Int
 regs:Int
 cells:List (Int × Int)
 code:List Ins
def cellE (x:Int × Int):List Value:=[I x.1,I x.2]
def insE (x:Ins):List Value:=[I x.op,I x.a,I x.b,I x.c,I x.k]
theorem gR (x:Int × Int):(cellE x).length=2:=rfl
theorem gH (x:Ins):(insE x).length=5:=rfl
structure PA where
 A1:Option Addr
 n1:Nat
 c1:Nat
 A2:Option Addr
 n2:Nat
 c2:Nat
 A3:Option Addr
 n3:Nat
 c3:Nat
 A4:Option Addr
 n4:Nat
 c4:Nat
structure bZ (w:World)(x:PA)(p:PV):Prop where
 r1:RI w x.A1 x.n1 p.ins
 r2:RI w x.A2 x.n2 p.outs
 r3:RdS 2 cellE w x.A3 x.n3 p.cells
 r4:RdS 5 insE w x.A4 x.n4 p.code
 k1:x.n1<=x.c1/\x.c1<=maxLen
 k2:x.n2<=x.c2/\x.c2<=maxLen
 k3:x.n3<=x.c3/\x.c3<=maxLen
 k4:x.n4<=x.c4/\x.c4<=maxLen
theorem bZ.below {w w':World}{x:PA}{p:PV}{b:Nat}(h:bZ w x p)(hb:Below b w w')(hB:w.heap.size<=b):bZ w' x p :=
 ⟨h.r1.below hb hB,h.r2.below hb hB,h.r3.below hb hB,h.r4.below hb hB,h.k1,h.k2,h.k3,h.k4⟩
def fu (t n:Int):Bool:=t == 1 || (t == 2 && (n == 0 || n == 1))
def cls (op:Int):Nat :=
 if op=1\/op=2\/op=21\/(28<=op/\op<=32) then 1
 else if op=3\/op=5\/op=6 then 2
 else if 7<=op/\op<=20 then 3
 else if op=27 then 4 else 0
theorem kP (op:Int):(op=1\/op=2\/op=21\/(28<=op/\op<=32))\/(op=3\/op=5\/op=6)\/(7<=op/\op<=20)\/op=27\/(op<=0\/op=4\/(22<=op/\op<=26)\/33<=op):=aS
theorem cls_1 (h:op=1\/op=2\/op=21\/(28<=op/\op<=32)):cls op=1:=by unfold cls;rw[if_pos h]
theorem cls_2 (h:op=3\/op=5\/op=6):cls op=2:=by unfold cls;rw[if_neg aS,if_pos h]
theorem cls_3 (h:7<=op/\op<=20):cls op=3:=by unfold cls;rw[if_neg aS,if_neg aS,if_pos h]
theorem cls_4 (h:op=27):cls op=4:=by unfold cls;rw[if_neg aS,if_neg aS,if_neg aS,if_pos h]
theorem cls_0 (h:op<=0\/op=4\/(22<=op/\op<=26)\/33<=op):cls op=0:=by unfold cls;rw[if_neg aS,if_neg aS,if_neg aS,if_neg aS]
theorem cls_le (op:Int):cls op<=4:=by
 rcases kP op with h | h | h | h | h
 · rw[cls_1 h];omega
 · rw[cls_2 h];omega
 · rw[cls_3 h];omega
 · rw[cls_4 h];omega
 · rw[cls_0 h];omega
def lQ (op:Int):Int:=match cls op with | 1=>9 | 2=>3 | 3=>7 | 4=>15 | _=>0
def hasN (op:Int):Int:=match cls op with | 1=>1 | 2=>2 | 3=>3 | 4=>3 | _=>0
def hasK (op:Int):Bool:=cls op == 1 || cls op == 4
def InsOk (x:Ins):Prop:=cls x.op≠0/\0<=x.a/\0<=x.b/\0<=x.c/\(cls x.op=1->x.b=0)/\(cls x.op<=2->x.c=0)/\(cls x.op=2\/cls x.op=3->x.k=0)
instance (x:Ins):Decidable (InsOk x):=by unfold InsOk;infer_instance
def insB (x:Ins):Bool:=decide (InsOk x)
def cJ (l:List (Int × Int))(i:Nat):Int × Int:=l.getD i (0,0)
def aX (l:List Ins)(i:Nat):Ins:=l.getD i ⟨0,0,0,0,0⟩
def mayB (p:PV):Bool:=(db p.ins && db p.outs) && ((decide (0<=p.regs) && decide (p.regs<=1600)) && ((decide (p.cells.length<=60) && decide (p.code.length<=2048)) &&
 (allK p.cells.length (fun i=>fu (cJ p.cells i).1 (cJ p.cells i).2) && allK p.code.length (fun i=>insB (aX p.code i)))))
theorem dP {p:PV}:mayB p=true ↔ db p.ins=true/\db p.outs=true/\0<=p.regs/\p.regs<=1600/\p.cells.length<=60/\p.code.length<=2048 /\
 (∀ i,i<p.cells.length->fu (cJ p.cells i).1 (cJ p.cells i).2=true)/\(∀ i,i<p.code.length->insB (aX p.code i)=true):=by
 unfold mayB;simp only[ax,iM,aq];constructor
 · rintro ⟨⟨h1,h2⟩,⟨h3,h4⟩,⟨h5,h6⟩,h7,h8⟩;exact⟨h1,h2,h3,h4,h5,h6,h7,h8⟩
 · rintro ⟨h1,h2,h3,h4,h5,h6,h7,h8⟩;exact⟨⟨h1,h2⟩,⟨h3,h4⟩,⟨h5,h6⟩,h7,h8⟩
theorem iT {l:List (Int × Int)}{i:Nat}{x:Int × Int}(h:l[i]?=some x):cJ l i=x:=by unfold cJ;rw[ag,h];rfl
theorem gC {l:List Ins}{i:Nat}{x:Ins}(h:l[i]?=some x):aX l i=x:=by unfold aX;rw[ag,h];rfl
def ip (x:Int × Int):List UInt8:=UInt8.ofNat x.1.toNat :: digL 9 (zz x.2)
def fY (x:Ins):List UInt8:=UInt8.ofNat x.op.toNat :: (digL 9 x.a.toNat ++ ((if 2<=cls x.op then digL 9 x.b.toNat else []) ++ ((if 3<=cls x.op then digL 9 x.c.toNat else []) ++ (if hasK x.op then digL 9 (zz x.k) else []))))
def iq (l:List Int):List UInt8:=digL 9 l.length ++ l.map (fun t=>UInt8.ofNat t.toNat)
def headBs (p:PV):List UInt8:=iq p.ins ++ iq p.outs ++ digL 9 p.regs.toNat ++ digL 9 p.cells.length
def gD (p:PV):List UInt8:=headBs p ++ p.cells.flatMap ip ++ digL 9 p.code.length ++ p.code.flatMap fY
theorem oP (op:Int)(w:World):Ca 230 #[I op] w fun e w'=>e=.returned (I (lQ op))/\w=w':=by
 unfold lQ;rcases kP op with h | h | h | h | h
 · rw[cls_1 h];rcases h with rfl | rfl | rfl | h
   case inr.inr.inr=>
    have b1:(op == 1)=false:=by rw[ae];omega
    have b2:(op == 2)=false:=by rw[ae];omega
    have b3:(op == 21)=false:=by rw[ae];omega
    have h1:=h.1;have h2:=h.2;go_enter Tryz.func230,Tryz.ntmps230;go_wp2;go_ret;exact⟨rfl,rfl⟩
   all_goals
    go_enter Tryz.func230,Tryz.ntmps230;go_wp2;go_ret;exact⟨rfl,rfl⟩
 · rw[cls_2 h];rcases h with rfl | rfl | rfl
   all_goals
    go_enter Tryz.func230,Tryz.ntmps230;go_wp2;go_ret;exact⟨rfl,rfl⟩
 · rw[cls_3 h];have b1:(op == 1)=false:=by rw[ae];omega
   have b2:(op == 2)=false:=by rw[ae];omega
   have b3:(op == 21)=false:=by rw[ae];omega
   have b4:(op == 3)=false:=by rw[ae];omega
   have b5:(op == 5)=false:=by rw[ae];omega
   have b6:(op == 6)=false:=by rw[ae];omega
   have h1:=h.1;have h2:=h.2;have h3:¬ 28<=op:=aS;go_enter Tryz.func230,Tryz.ntmps230;go_wp2;go_ret;exact⟨rfl,rfl⟩
 · rw[cls_4 h];subst h;go_enter Tryz.func230,Tryz.ntmps230;go_wp2;go_ret;exact⟨rfl,rfl⟩
 · rw[cls_0 h];have b1:(op == 1)=false:=by rw[ae];omega
   have b2:(op == 2)=false:=by rw[ae];omega
   have b3:(op == 21)=false:=by rw[ae];omega
   have b4:(op == 3)=false:=by rw[ae];omega
   have b5:(op == 5)=false:=by rw[ae];omega
   have b6:(op == 6)=false:=by rw[ae];omega
   have b7:(op == 27)=false:=by rw[ae];omega
   rcases h with h | h | h | h
   · have h1:¬ 28<=op:=aS;have h2:¬ 7<=op:=aS;go_enter Tryz.func230,Tryz.ntmps230;go_wp2;go_ret;exact⟨rfl,rfl⟩
   · subst h;go_enter Tryz.func230,Tryz.ntmps230;go_wp2;go_ret;exact⟨rfl,rfl⟩
   · have h1:¬ 28<=op:=aS;have h2:7<=op:=aS;have h3:¬ op<=20:=aS;go_enter Tryz.func230,Tryz.ntmps230;go_wp2;go_ret;exact⟨rfl,rfl⟩
   · have h1:28<=op:=aS;have h4:¬ op<=32:=aS;have h2:7<=op:=aS;have h3:¬ op<=20:=aS;go_enter Tryz.func230,Tryz.ntmps230;go_wp2;go_ret;exact⟨rfl,rfl⟩
theorem has_any (op:Int)(w:World):Ca 173 #[I op] w fun e w'=>e=.returned (.tuple #[I (hasN op),.bool (hasK op)])/\w=w':=by
 unfold hasN hasK;rcases kP op with h | h | h | h | h
 · rw[cls_1 h];rcases h with rfl | rfl | rfl | h
   case inr.inr.inr=>
    have b1:(op == 1)=false:=by rw[ae];omega
    have b2:(op == 2)=false:=by rw[ae];omega
    have b3:(op == 21)=false:=by rw[ae];omega
    have h1:=h.1;have h2:=h.2;go_enter Tryz.func173,Tryz.ntmps173;go_wp2;go_ret2;exact⟨rfl,rfl⟩
   all_goals
    go_enter Tryz.func173,Tryz.ntmps173;go_wp2;go_ret2;exact⟨rfl,rfl⟩
 · rw[cls_2 h];rcases h with rfl | rfl | rfl
   all_goals
    go_enter Tryz.func173,Tryz.ntmps173;go_wp2;go_ret2;exact⟨rfl,rfl⟩
 · rw[cls_3 h];have b1:(op == 1)=false:=by rw[ae];omega
   have b2:(op == 2)=false:=by rw[ae];omega
   have b3:(op == 21)=false:=by rw[ae];omega
   have b4:(op == 3)=false:=by rw[ae];omega
   have b5:(op == 5)=false:=by rw[ae];omega
   have b6:(op == 6)=false:=by rw[ae];omega
   have h1:=h.1;have h2:=h.2;have h3:¬ 28<=op:=aS;go_enter Tryz.func173,Tryz.ntmps173;go_wp2;go_ret2;exact⟨rfl,rfl⟩
 · rw[cls_4 h];subst h;go_enter Tryz.func173,Tryz.ntmps173;go_wp2;go_ret2;exact⟨rfl,rfl⟩
 · rw[cls_0 h];have b1:(op == 1)=false:=by rw[ae];omega
   have b2:(op == 2)=false:=by rw[ae];omega
   have b3:(op == 21)=false:=by rw[ae];omega
   have b4:(op == 3)=false:=by rw[ae];omega
   have b5:(op == 5)=false:=by rw[ae];omega
   have b6:(op == 6)=false:=by rw[ae];omega
   have b7:(op == 27)=false:=by rw[ae];omega
   rcases h with h | h | h | h
   · have h1:¬ 28<=op:=aS;have h2:¬ 7<=op:=aS;go_enter Tryz.func173,Tryz.ntmps173;go_wp2;go_ret2;exact⟨rfl,rfl⟩
   · subst h;go_enter Tryz.func173,Tryz.ntmps173;go_wp2;go_ret2;exact⟨rfl,rfl⟩
   · have h1:¬ 28<=op:=aS;have h2:7<=op:=aS;have h3:¬ op<=20:=aS;go_enter Tryz.func173,Tryz.ntmps173;go_wp2;go_ret2;exact⟨rfl,rfl⟩
   · have h1:28<=op:=aS;have h4:¬ op<=32:=aS;have h2:7<=op:=aS;have h3:¬ op<=20:=aS;go_enter Tryz.func173,Tryz.ntmps173;go_wp2;go_ret2;exact⟨rfl,rfl⟩
theorem value_any (t n:Int)(w:World):Ca 222 #[I t,I n] w fun e w'=>e=.returned (.bool (fu t n))/\w=w':=by
 unfold fu
 by_cases h1:t=1
 · subst h1;go_enter Tryz.func222,Tryz.ntmps222;go_wp2;go_ret;exact⟨rfl,rfl⟩
 · have b1:(t == 1)=false:=by rw[ae];exact h1
   rw[b1]
   by_cases h2:t=2
   · subst h2;clear h1
     by_cases h3:n=0
     · subst h3;go_enter Tryz.func222,Tryz.ntmps222;go_wp2;go_ret;exact⟨rfl,rfl⟩
     · have b3:(n == 0)=false:=by rw[ae];exact h3
       rw[b3];clear h3;go_enter Tryz.func222,Tryz.ntmps222;go_wp2;go_ret;exact⟨rfl,rfl⟩
   · have b2:(t == 2)=false:=by rw[ae];exact h2
     rw[b2];clear h1 h2;go_enter Tryz.func222,Tryz.ntmps222;go_wp2;go_ret;exact⟨rfl,rfl⟩
theorem oQ (t n:Int)(w:World):Ca 172 #[I t,I n] w fun e w'=>e=.returned (.bool (fu t n))/\w=w':=by
 unfold fu
 by_cases h1:t=1
 · subst h1;go_enter Tryz.func172,Tryz.ntmps172;go_wp2;go_ret;exact⟨rfl,rfl⟩
 · have b1:(t == 1)=false:=by rw[ae];exact h1
   rw[b1]
   by_cases h2:t=2
   · subst h2;clear h1
     by_cases h3:n=0
     · subst h3;go_enter Tryz.func172,Tryz.ntmps172;go_wp2;go_ret;exact⟨rfl,rfl⟩
     · have b3:(n == 0)=false:=by rw[ae];exact h3
       rw[b3];clear h3;go_enter Tryz.func172,Tryz.ntmps172;go_wp2;go_ret;exact⟨rfl,rfl⟩
   · have b2:(t == 2)=false:=by rw[ae];exact h2
     rw[b2];clear h1 h2;go_enter Tryz.func172,Tryz.ntmps172;go_wp2;go_ret;exact⟨rfl,rfl⟩
theorem instr_any (op a b c k:Int)(w:World):Ca 223 #[.agg #[I op,I a,I b,I c,I k]] w fun e w'=>e=.returned (.bool (insB ⟨op,a,b,c,k⟩))/\Below w.heap.size w w':=by
 have hf:=fun w=>oP op w
 unfold lQ at hf;have hle:=cls_le op;generalize hI:insB ⟨op,a,b,c,k⟩=z;have hI2:z=true ↔ (cls op≠0/\0<=a/\0<=b/\0<=c/\(cls op=1->b=0)/\(cls op<=2->c=0)/\(cls op=2\/cls op=3->k=0)):=by
  rw[<- hI];unfold insB;rw[decide_eq_true_iff];rfl
 clear hI;generalize cls op=q at *;have e92:bits .and .i64 9 2=0:=by decide
 have e94:bits .and .i64 9 4=0:=by decide
 have e98:bits .and .i64 9 8=8:=by decide
 have e32:bits .and .i64 3 2=2:=by decide
 have e34:bits .and .i64 3 4=0:=by decide
 have e38:bits .and .i64 3 8=0:=by decide
 have e72:bits .and .i64 7 2=2:=by decide
 have e74:bits .and .i64 7 4=4:=by decide
 have e78:bits .and .i64 7 8=0:=by decide
 have e152:bits .and .i64 15 2=2:=by decide
 have e154:bits .and .i64 15 4=4:=by decide
 have e158:bits .and .i64 15 8=8:=by decide
 rcases (show q=0\/q=1\/q=2\/q=3\/q=4 by omega) with rfl | rfl | rfl | rfl | rfl
 · have hf':∀ w,Ca 230 #[I op] w fun e w'=>e=.returned (I 0)/\w=w':=hf
   cases z with
   | true=>exact absurd rfl (hI2.1 rfl).1
   | false=>
     clear hI2 hf hle;go_enter Tryz.func223,Tryz.ntmps223;go_wp2_with (go_at_call 230;go_call (hf' _) as e w1 ⟨rfl,rfl⟩);go_ret;exact⟨rfl,be⟩
 case' inr.inl=>
  have hf':∀ w,Ca 230 #[I op] w fun e w'=>e=.returned (I 9)/\w=w':=hf
  have hcs:(a<0)\/(0<=a/\b<0)\/(0<=a/\0<=b/\c<0)\/(0<=a/\0<b/\0<=c)\/(0<=a/\b=0/\0<c)\/(0<=a/\b=0/\c=0):=aS
 case' inr.inr.inl=>
  have hf':∀ w,Ca 230 #[I op] w fun e w'=>e=.returned (I 3)/\w=w':=hf
  have hcs:(a<0)\/(0<=a/\b<0)\/(0<=a/\0<=b/\c<0)\/(0<=a/\0<=b/\0<c)\/(0<=a/\0<=b/\c=0/\k≠0)\/(0<=a/\0<=b/\c=0/\k=0):=aS
 case' inr.inr.inr.inl=>
  have hf':∀ w,Ca 230 #[I op] w fun e w'=>e=.returned (I 7)/\w=w':=hf
  have hcs:(a<0)\/(0<=a/\b<0)\/(0<=a/\0<=b/\c<0)\/(0<=a/\0<=b/\0<=c/\k≠0)\/(0<=a/\0<=b/\0<=c/\k=0)\/False:=aS
 case' inr.inr.inr.inr=>
  have hf':∀ w,Ca 230 #[I op] w fun e w'=>e=.returned (I 15)/\w=w':=hf
  have hcs:(a<0)\/(0<=a/\b<0)\/(0<=a/\0<=b/\c<0)\/(0<=a/\0<=b/\0<=c)\/False\/False:=aS
 all_goals
  clear hf hle;rcases hcs with hcs | hcs | hcs | hcs | hcs | hcs
  all_goals
   cases z
   all_goals
    first
    | (exfalso;have h9:=hI2.1 rfl;omega)
    | (exfalso;apply Bool.false_ne_true;apply hI2.2;refine⟨?_,?_,?_,?_,?_,?_,?_⟩ <;> (intros;omega))
    | (exfalso;exact hcs)
    | skip
 all_goals
  clear hI2
  first
  | (obtain⟨h1,rfl,rfl⟩:=hcs)
  | (obtain⟨h1,h2,rfl,rfl⟩:=hcs)
  | (obtain⟨h1,h2,h3,rfl⟩:=hcs)
  | (obtain⟨h1,rfl,h3⟩:=hcs;(have b3:(c == 0)=false:=by rw[ae];omega))
  | (obtain⟨h1,h2,rfl,h4⟩:=hcs;(have b4:(k == 0)=false:=by rw[ae];omega);clear h4)
  | (obtain⟨h1,h2,h3,h4⟩:=hcs;(have b4:(k == 0)=false:=by rw[ae];omega);clear h4)
  | (obtain⟨h1,h2,h3⟩:=hcs;try (have b2:(b == 0)=false:=by rw[ae];omega);try (have b3:(c == 0)=false:=by rw[ae];omega))
  | (obtain⟨h1,h2⟩:=hcs)
  | skip
 all_goals
  go_enter Tryz.func223,Tryz.ntmps223;go_wp2_with (go_at_call 230;go_call (hf' _) as e w1 ⟨rfl,rfl⟩);go_ret;exact⟨rfl,be⟩
theorem jt (A:Option Addr)(n c:Nat)(l:List Int)(w:World)(hl:RI w A n l)(hn:n<=maxLen) :
 Ca 150 #[.slice A n c] w fun e w'=>e=.returned (.bool (db l))/\w=w':=by
 unfold maxLen at hn;have hlen:=aT hl.1;generalize hz:db l=z;have Hz:=aT hz;clear hz;go_enter Tryz.func150,Tryz.ntmps150;go_wp2;go_loop [7] (fun i=>∃ k:Nat,k<=n/\i=I (k:Nat)/\Hid (∀ i,i<k->tyB (ba l i)=true)) (fun i=>n - (intOf i).toNat)
 case atStart=>exact⟨0,aS,rfl,fun i hi=>absurd hi aS⟩
 case round=>
  obtain⟨k,hk,rfl,hall⟩:=hrel
  by_cases hlt:k<n
  · obtain⟨b,o,rfl,_,hc⟩:=hl.at_ hlt;have hne:¬ (n:Int)<=(k:Int):=aS
    by_cases ht:tyB (ba l k)=true
    · have H:=aT ht;have hall':Hid (∀ i,i<k+1->tyB (ba l i)=true):=fun i hi=>by
       rcases aw i k with h | h
       · exact hall.out i h
       · rw[show i=k from by omega];exact H.out
      rcases kO.1 ht with h1 | h1
      all_goals
       rw[h1] at hc;clear h1 H ht hall;go_wp2;go_round
       case rel=>exact⟨k+1,aS,by go_num,hall'⟩
       case measure=>simp[intOf];omega
    · have H:=aT ht;have h1:ba l k≠1/\ba l k≠2:=by
       constructor <;> intro e <;> exact ht (kO.2 aS)
      have b1:(ba l k != 1)=true:=by rw[af];exact h1.1
      have b2:(ba l k != 2)=true:=by rw[af];exact h1.2
      clear h1 ht;go_wp2;go_ret;refine⟨cV ?_,rfl⟩;rw[<- Hz.out];unfold db;rw[lO (k:=k) lL (by simpa using H.out)]
      rfl
  · have hkn:Hid (k=n):=show k=n by omega
    have hge:(n:Int)<=(k:Int):=aS;have hz2:Hid (z=(decide (1<=n) && decide (n<=8))):=by
     show z=_
     rw[<- Hz.out];unfold db;rw[iM.2 (fun i hi=>hall.out i (by rw[hlen.out] at hi;rw[hkn.out];exact hi)),hlen.out]
     rfl
    rcases (show n=0\/(1<=n/\n<=8)\/8<n by omega) with h0 | ⟨h0,h1⟩ | h0
    · subst h0;go_wp2;go_ret;exact⟨cV (by rw[hz2.out];rfl),rfl⟩
    · go_wp2;go_ret;exact⟨cV lG,rfl⟩
    · go_wp2;go_ret;exact⟨cV lG,rfl⟩
theorem ng (A:Option Addr)(n c:Nat)(l:List Int)(w:World)(hl:RI w A n l)(hn:n<=maxLen) :
 Ca 121 #[.slice A n c] w fun e w'=>e=.returned (.bool (db l))/\w=w':=by
 unfold maxLen at hn;have hlen:=aT hl.1;generalize hz:db l=z;have Hz:=aT hz;clear hz;go_enter Tryz.func121,Tryz.ntmps121;go_wp2;go_loop [3] (fun i=>∃ k:Nat,k<=n/\i=I (k:Nat)/\Hid (∀ i,i<k->tyB (ba l i)=true)) (fun i=>n - (intOf i).toNat)
 case atStart=>exact⟨0,aS,rfl,fun i hi=>absurd hi aS⟩
 case round=>
  obtain⟨k,hk,rfl,hall⟩:=hrel
  by_cases hlt:k<n
  · obtain⟨b,o,rfl,_,hc⟩:=hl.at_ hlt;have hne:¬ (n:Int)<=(k:Int):=aS
    by_cases ht:tyB (ba l k)=true
    · have H:=aT ht;have hall':Hid (∀ i,i<k+1->tyB (ba l i)=true):=fun i hi=>by
       rcases aw i k with h | h
       · exact hall.out i h
       · rw[show i=k from by omega];exact H.out
      rcases kO.1 ht with h1 | h1
      all_goals
       rw[h1] at hc;clear h1 H ht hall;go_wp2;go_round
       case rel=>exact⟨k+1,aS,by go_num,hall'⟩
       case measure=>simp[intOf];omega
    · have H:=aT ht;have h1:ba l k≠1/\ba l k≠2:=by
       constructor <;> intro e <;> exact ht (kO.2 aS)
      have b1:(ba l k != 1)=true:=by rw[af];exact h1.1
      have b2:(ba l k != 2)=true:=by rw[af];exact h1.2
      clear h1 ht;go_wp2;go_ret;refine⟨cV ?_,rfl⟩;rw[<- Hz.out];unfold db;rw[lO (k:=k) lL (by simpa using H.out)]
      rfl
  · have hkn:Hid (k=n):=show k=n by omega
    have hge:(n:Int)<=(k:Int):=aS;have hz2:Hid (z=(decide (1<=n) && decide (n<=8))):=by
     show z=_
     rw[<- Hz.out];unfold db;rw[iM.2 (fun i hi=>hall.out i (by rw[hlen.out] at hi;rw[hkn.out];exact hi)),hlen.out]
     rfl
    rcases (show n=0\/(1<=n/\n<=8)\/8<n by omega) with h0 | ⟨h0,h1⟩ | h0
    · subst h0;go_wp2;go_ret;exact⟨cV (by rw[hz2.out];rfl),rfl⟩
    · go_wp2;go_ret;exact⟨cV lG,rfl⟩
    · go_wp2;go_ret;exact⟨cV lG,rfl⟩
theorem lR (v:Int)(w:World):Ca 241 #[I v] w fun e w'=>e=.returned (.bool (v == 0 || v == 1))/\w=w':=by
 by_cases h:v=0
 · subst h;go_enter Tryz.func241,Tryz.ntmps241;go_wp2;go_ret;exact⟨rfl,rfl⟩
 · have h1:(v == 0)=false:=by rw[ae];exact h
   rw[h1];clear h;go_enter Tryz.func241,Tryz.ntmps241;go_wp2;go_ret;exact⟨rfl,rfl⟩
theorem nh (A B:Option Addr)(n m c d:Nat)(ts l:List Int)(w:World)(ht:RI w A n ts)(hl:RI w B m l)(hn:n<=maxLen)(hm:m<=maxLen) :
 Ca 216 #[.slice A n c,.slice B m d] w fun e w'=>e=.returned (.bool (cx ts l))/\w=w':=by
 have hright:=jt A n c ts w ht hn;unfold maxLen at hn hm;have hlen:=aT ht.1;have hlen2:=aT hl.1;generalize hz:cx ts l=z;have Hz:=aT hz;clear hz
 cases hr:db ts with
 | false=>
   rw[hr] at hright;have hz3:z=false:=by rw[<- Hz.out];unfold cx;rw[hr];rfl
   rw[hz3];clear hz3 hr;go_enter Tryz.func216,Tryz.ntmps216;go_wp2_with (go_at_call 150;go_call (hright) as e w' ⟨rfl,rfl⟩);go_ret;exact⟨rfl,rfl⟩
 | true=>
   rw[hr] at hright;have Hr:=aT hr;clear hr
   by_cases hnm:m=n
   · have Hnm:=aT hnm;subst hnm;have hnn:(((m:Nat):Int) != (m:Int))=false:=by simp
     go_enter Tryz.func216,Tryz.ntmps216;go_wp2_with (go_at_call 150;go_call (hright) as e w' ⟨rfl,rfl⟩);go_loop [19] (fun i=>∃ k:Nat,k<=m/\i=I (k:Nat)/\Hid (∀ i,i<k->okAt (ba ts i) (ba l i)=true)) (fun i=>m - (intOf i).toNat)
     case atStart=>exact⟨0,aS,rfl,fun i hi=>absurd hi aS⟩
     case round=>
      obtain⟨k,hk,rfl,hall⟩:=hrel
      by_cases hlt:k<m
      · obtain⟨b,o,rfl,_,hc⟩:=ht.at_ hlt;obtain⟨b2,o2,rfl,_,hc2⟩:=hl.at_ hlt;have hne:¬ (m:Int)<=(k:Int):=aS
        by_cases hok:okAt (ba ts k) (ba l k)=true
        · have hall':Hid (∀ i,i<k+1->okAt (ba ts i) (ba l i)=true):=fun i hi=>by
           rcases aw i k with h | h
           · exact hall.out i h
           · rw[show i=k from by omega];exact hok
          have h3:=jr.1 hok;clear hok hall
          by_cases h2:ba ts k=2
          · have h4:=h3 h2;rw[h2] at hc;have h5:Hid ((ba l k == 0 || ba l k == 1)=true):=by
             show _=_
             rcases h4 with e | e <;> rw[e] <;> rfl
            clear h3 h4 h2;generalize ba l k=v at *;go_wp2_with (go_at_call 241;go_call (lR _ _) as e w' ⟨rfl,rfl⟩;rw[h5.out]);go_round
            case rel=>exact⟨k+1,aS,by go_num,hall'⟩
            case measure=>simp[intOf];omega
          · have b2:(ba ts k == 2)=false:=by rw[ae];exact h2
            clear h2 h3;generalize ba ts k=v at *;go_wp2;go_round
            case rel=>exact⟨k+1,aS,by go_num,hall'⟩
            case measure=>simp[intOf];omega
        · have h3:=lP.1 (by simpa using hok);rw[h3.1] at hc;have h5:Hid ((ba l k == 0 || ba l k == 1)=false):=by
           show _=_
           rw[Bool.or_eq_false_iff,ae,ae];exact h3.2
          have hz3:Hid (z=false):=by
           show z=false
           rw[<- Hz.out];unfold cx;rw[lO (k:=k) lL (by simpa using hok)];simp
          clear h3 hok;generalize ba l k=v at *;go_wp2_with (go_at_call 241;go_call (lR _ _) as e w' ⟨rfl,rfl⟩;rw[h5.out]);go_ret;exact⟨cV hz3.out.symm,rfl⟩
      · have hge:(m:Int)<=(k:Int):=aS;have hz3:Hid (z=true):=by
         show z=true
         rw[<- Hz.out];unfold cx;rw[iM.2 (fun i hi=>hall.out i (by rw[hlen.out] at hi;omega)),Hr.out,hlen.out,hlen2.out];simp
        go_wp2;go_ret;exact⟨cV hz3.out.symm,rfl⟩
   · have hne:(((m:Nat):Int) != (n:Int))=true:=by rw[af];omega
     have hz3:z=false:=by
      rw[<- Hz.out];unfold cx;rw[show decide (l.length=ts.length)=false from ah (by rw[hlen.out,hlen2.out];exact hnm)];simp
     rw[hz3];clear hnm hz3;go_enter Tryz.func216,Tryz.ntmps216;go_wp2_with (go_at_call 150;go_call (hright) as e w' ⟨rfl,rfl⟩);go_ret;exact⟨rfl,rfl⟩
theorem oR (A B:Option Addr)(n m c d:Nat)(ts l:List Int)(w:World)(ht:RI w A n ts)(hl:RI w B m l)(hn:n<=maxLen)(hm:m<=maxLen) :
 Ca 30 #[.slice A n c,.slice B m d] w fun e w'=>e=.returned (.bool (cx ts l))/\w=w':=by
 have hright:=ng A n c ts w ht hn;unfold maxLen at hn hm;have hlen:=aT ht.1;have hlen2:=aT hl.1;generalize hz:cx ts l=z;have Hz:=aT hz;clear hz
 cases hr:db ts with
 | false=>
   rw[hr] at hright;have hz3:z=false:=by rw[<- Hz.out];unfold cx;rw[hr];rfl
   rw[hz3];clear hz3 hr;go_enter Tryz.func30,Tryz.ntmps30;go_wp2_with (go_at_call 121;go_call (hright) as e w' ⟨rfl,rfl⟩);go_ret;exact⟨rfl,rfl⟩
 | true=>
   rw[hr] at hright;have Hr:=aT hr;clear hr
   by_cases hnm:m=n
   · have Hnm:=aT hnm;subst hnm;have hnn:(((m:Nat):Int) != (m:Int))=false:=by simp
     go_enter Tryz.func30,Tryz.ntmps30;go_wp2_with (go_at_call 121;go_call (hright) as e w' ⟨rfl,rfl⟩);go_loop [5] (fun i=>∃ k:Nat,k<=m/\i=I (k:Nat)/\Hid (∀ i,i<k->okAt (ba ts i) (ba l i)=true)) (fun i=>m - (intOf i).toNat)
     case atStart=>exact⟨0,aS,rfl,fun i hi=>absurd hi aS⟩
     case round=>
      obtain⟨k,hk,rfl,hall⟩:=hrel
      by_cases hlt:k<m
      · obtain⟨b,o,rfl,_,hc⟩:=ht.at_ hlt;obtain⟨b2,o2,rfl,_,hc2⟩:=hl.at_ hlt;have hne:¬ (m:Int)<=(k:Int):=aS
        by_cases hok:okAt (ba ts k) (ba l k)=true
        · have hall':Hid (∀ i,i<k+1->okAt (ba ts i) (ba l i)=true):=fun i hi=>by
           rcases aw i k with h | h
           · exact hall.out i h
           · rw[show i=k from by omega];exact hok
          have h3:=jr.1 hok;clear hok hall
          by_cases h2:ba ts k=2
          · have h4:=h3 h2;rw[h2] at hc;clear h3 h2;rcases h4 with h4 | h4
            all_goals
             rw[h4] at hc2;clear h4;go_wp2;go_round
             case rel=>exact⟨k+1,aS,by go_num,hall'⟩
             case measure=>simp[intOf];omega
          · have b2:(ba ts k == 2)=false:=by rw[ae];exact h2
            clear h2 h3;generalize ba ts k=v at *;go_wp2;go_round
            case rel=>exact⟨k+1,aS,by go_num,hall'⟩
            case measure=>simp[intOf];omega
        · have h3:=lP.1 (by simpa using hok);rw[h3.1] at hc;have b1:(ba l k != 0)=true:=by rw[af];exact h3.2.1
          have b2:(ba l k != 1)=true:=by rw[af];exact h3.2.2
          have hz3:Hid (z=false):=by
           show z=false
           rw[<- Hz.out];unfold cx;rw[lO (k:=k) lL (by simpa using hok)];simp
          clear h3 hok;generalize ba l k=v at *;go_wp2;go_ret;exact⟨cV hz3.out.symm,rfl⟩
      · have hge:(m:Int)<=(k:Int):=aS;have hz3:Hid (z=true):=by
         show z=true
         rw[<- Hz.out];unfold cx;rw[iM.2 (fun i hi=>hall.out i (by rw[hlen.out] at hi;omega)),Hr.out,hlen.out,hlen2.out];simp
        go_wp2;go_ret;exact⟨cV hz3.out.symm,rfl⟩
   · have hne:(((m:Nat):Int) != (n:Int))=true:=by rw[af];omega
     have hz3:z=false:=by
      rw[<- Hz.out];unfold cx;rw[show decide (l.length=ts.length)=false from ah (by rw[hlen.out,hlen2.out];exact hnm)];simp
     rw[hz3];clear hnm hz3;go_enter Tryz.func30,Tryz.ntmps30;go_wp2_with (go_at_call 121;go_call (hright) as e w' ⟨rfl,rfl⟩);go_ret;exact⟨rfl,rfl⟩
